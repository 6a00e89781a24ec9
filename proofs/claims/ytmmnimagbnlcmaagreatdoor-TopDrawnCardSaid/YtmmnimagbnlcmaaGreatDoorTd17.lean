/- Texts of this claim, merged: Drw9 Drw10 Drw17 Drw18 Drw19 Drw15 Drw16 Drw13 Drw14. -/
import Derived.Test.YtmmnimagbnlcmaaGreatDoorTd16
import Derived.Test.YtmmnimagbnlcmaaGreatDoorRows
import Derived.WalkKit
import Derived.WalkSpells
import Derived.WalkLawsBesides
import Derived.Handy
import Derived.Lib.Hide
import Derived.Laws.BitsAllLaws
import Derived.Deep.MidRow
import Derived.Deep.WholeRow
import Derived.BigQuiet
import Derived.Deep.QuietTactic
import Derived.Laws.CopyOwn
import Derived.StillTailTactics
import Derived.RegionTactic
import Derived.ChangeAlike
import Derived.Laws.AppendOwnNone
import Derived.Laws.MakeOwn
import Derived.Laws.IdiomStrings
import Derived.OrdersHeld
import Derived.Lib.SliceRun
import Derived.ChangeKeysEq
import Derived.Laws.CopyRow
import Derived.Lib.AppendStr
import Derived.ArgAppend
import Derived.Laws.RangeAny
import Derived.Maps.RangeRun
import Derived.Lib.Replace
import Derived.Lib.Join
import Derived.Lib.IndexLaws
import Derived.Lib.IndexMore
import Derived.Lib.SplitLaws
import Derived.Shelf.Strings.Builder1
import Derived.Shelf.Strings.Builder2
import Derived.Shelf.Strings.OnBuilder
import Derived.Shelf.Strings.Trim
import Derived.Shelf.Small.Utf8
import Derived.Shelf.Small.Strs
import Derived.Shelf.Strings.BuilderF
import Derived.Shelf.Strconv.Itoa0
import Derived.Shelf.Strconv.Itoa1
import Derived.Shelf.LaysM
import Derived.Shelf.Strconv.Itoa2
import Derived.Shelf.Strconv.Itoa3
import Derived.Shelf.Strings.Search1
import Derived.Shelf.Strings.Search2
import Derived.Shelf.Strings.Search3
import Derived.Shelf.Strings.Count
import Derived.Shelf.Strings.Shaped
import Derived.Shelf.Strings.LastIndex
import Derived.Shelf.Strings.Prefix
import Derived.Shelf.Strings.Split
import Derived.Shelf.Strings.Replace
import Derived.Shelf.Strings.SplitShaped
import Derived.Shelf.Strings.Runes
import Derived.Shelf.Strings.AsciiSet
import Derived.Shelf.Bits.Mul64
import Derived.Shelf.Strings.Repeat
import Derived.Shelf.Unicode.DecodeSlow
import Derived.Shelf.Unicode.DecodeAny
import Derived.Shelf.Unicode.ValidAny
import Derived.Test.YtmmnimagbnlcmaaGreatDoorProg
import Derived.Lib.Bytealg
import Derived.Lib.ItoaNum
import Derived.Lib.AppendIntMem
import Derived.Lib.Repeat
import Derived.Lib.DecodeN
import Derived.Lib.ValidU
import Derived.Lib.MapLaws
namespace Go.Proofs.YtmmnimagbnlcmaaGreatDoor
open Go Go.RowKit Go.Fw Go.Sx
set_option maxRecDepth 100000
section
set_option maxHeartbeats 2000000
theorem ge0 {a:Int} (h:0≤a):max a 0=a:=by omega
theorem AS5 {t:Tri} {a:Int} {r:List Int} (h:0≤a) (h1:a≠38∧a≠48):sgrL t (a::r)=sgrL (oneP t a) r:=by
  rw[Ad0,ge0 h,if_neg (by omega)]
theorem Af2 {t:Tri} {a:Int} {p r:List Int} {c:Int} {n:Nat} (h1:a=38∨a=48) (he:extL (p++r)=(c,n)) (hn:n≠0) (hp:p.length=n):sgrL t (a::(p++r))=sgrL (setC t a c) r:=by
  rw[Ad0,ge0 (by omega),if_pos h1,he]
  dsimp only
  rw[if_neg hn,←hp,List.drop_left]
theorem Bq0 {c:Int} (h:1≤c∧c≤256) (r:List Int):extL ([5,c-1]++r)=(c,2):=by
  unfold extL
  rw[if_pos ⟨by simp,rfl,by show c-1<256;omega⟩]
  show (max (c-1) 0+1,2)=_
  rw[ge0 (by omega),show c-1+1=c from by omega]
theorem Bq1 {c:Int} (h:16777216≤c∧c<33554432) (r:List Int):extL ([2,c / 65536 % 256,c / 256 % 256,c % 256]++r)=(c,4):=by
  unfold extL
  rw[if_neg (by rintro ⟨-,h2,-⟩;exact absurd (show (2:Int)=5 from h2) (by decide)),if_pos ⟨by simp,rfl,by show c / 65536 % 256<256;omega,by show c / 256 % 256<256;omega,by show c % 256<256;omega⟩]
  show (16777216+65536 * max (c / 65536 % 256) 0+256 * max (c / 256 % 256) 0+max (c % 256) 0,4)=_
  rw[show 16777216+65536 * max (c / 65536 % 256) 0+256 * max (c / 256 % 256) 0+max (c % 256) 0=c from by omega]
theorem BL7 (x fo ba c:Int) (hc:(1≤c∧c≤256)∨(16777216≤c∧c<33554432)) (r:List Int):sgrL (x,fo,ba) (q8 c 30++r)=sgrL (x,c,ba) r:=by
  unfold q8
  split
  · rw[List.singleton_append,AS5 (by omega) (by omega),CI5 (by omega)]
    show sgrL (x,30+c-1-29,ba) r=_
    rw[show 30+c-1-29=c from by omega]
  · split
    · rw[List.singleton_append,AS5 (by omega) (by omega),CH2 (by omega)]
      show sgrL (x,30+60+c-9-81,ba) r=_
      rw[show 30+60+c-9-81=c from by omega]
    · split
      · exact Af2 (p:=[5,c-1]) (.inl rfl) (Bq0 (by omega) r) (by decide) rfl
      · exact Af2 (p:=[2,c / 65536 % 256,c / 256 % 256,c % 256]) (.inl rfl) (Bq1 (by omega) r) (by decide) rfl
theorem BJ7 (x fo ba c:Int) (hc:(1≤c∧c≤256)∨(16777216≤c∧c<33554432)) (r:List Int):sgrL (x,fo,ba) (q8 c 40++r)=sgrL (x,fo,c) r:=by
  unfold q8
  split
  · rw[List.singleton_append,AS5 (by omega) (by omega),CH4 (by omega)]
    show sgrL (x,fo,40+c-1-39) r=_
    rw[show 40+c-1-39=c from by omega]
  · split
    · rw[List.singleton_append,AS5 (by omega) (by omega),CF2 (by omega)]
      show sgrL (x,fo,40+60+c-9-91) r=_
      rw[show 40+60+c-9-91=c from by omega]
    · split
      · exact Af2 (p:=[5,c-1]) (.inr rfl) (Bq0 (by omega) r) (by decide) rfl
      · exact Af2 (p:=[2,c / 65536 % 256,c / 256 % 256,c % 256]) (.inr rfl) (Bq1 (by omega) r) (by decide) rfl
theorem Ar3:∀(F:List Nat) (x fo ba:Int) (r:List Int),(∀n∈F,1≤n∧n≤9)→sgrL (x,fo,ba) (F.map (fun n:Nat=>(n:Int))++r)=sgrL (F.foldl (fun (x:Int) (n:Nat)=>ior x (flagI (n:Int))) x,fo,ba) r
  | [],_,_,_,_,_=>rfl
  | n::F,x,fo,ba,r,h=>by
    have hn:=h n List.mem_cons_self
    rw[List.map_cons,List.cons_append,AS5 (by omega) (by omega),CE8 (by omega)]
    exact Ar3 F _ fo ba r fun m hm=>h m (List.mem_cons_of_mem _ hm)
theorem B48:∀a:Fin 256,∀t:Fin 256,a.val&&& (18446744073709551615-t.val)=0→((List.range' 1 9).filter (fun n=>decide (¬((AC5 n&&& t.val)&&& (18446744073709551615-a.val))=0))).foldl (fun x n=>x|||AC5 n) a.val=t.val:=by decide+kernel
theorem Bd7 (x:Nat) (n:Nat) (h:n<10):ior (x:Int) (flagI (n:Int))=((x|||AC5 n:Nat):Int):=by
  rw[Ay5]
  have e:(flagI (n:Int)).toNat=AC5 n:=by
    rw[←Ay3]
    simp
  rw[e]
  rfl
theorem Az7:∀(F:List Nat) (x:Nat),(∀n∈F,n<10)→F.foldl (fun (x:Int) (n:Nat)=>ior x (flagI (n:Int))) (x:Int)=((F.foldl (fun x n=>x|||AC5 n) x:Nat):Int)
  | [],_,_=>rfl
  | n::F,x,h=>by
    rw[List.foldl_cons,List.foldl_cons,Bd7 x n (h n List.mem_cons_self)]
    exact Az7 F _ fun m hm=>h m (List.mem_cons_of_mem _ hm)
theorem BR7 (a t n:Nat):flagT (a:Int) (t:Int) n=decide (¬((AC5 n&&& t)&&& (18446744073709551615-a))=0):=by
  unfold flagT
  rw[AP1,AS1]
  simp
theorem Bf5 {a t:Int} (ha:0≤a∧a≤255) (ht:0≤t∧t≤255) (h:iclr a t=0) (fo ba:Int) (r:List Int):sgrL (a,fo,ba) (AB0 a t 10++r)=sgrL (t,fo,ba) r:=by
  obtain⟨x,rfl⟩:∃x:Nat,a=x:=⟨a.toNat,by omega⟩
  obtain⟨y,rfl⟩:∃y:Nat,t=y:=⟨t.toNat,by omega⟩
  have hx:x<256:=by omega
  have hy:y<256:=by omega
  have hF:∀n∈(List.range' 1 9).filter (flagT (x:Int) (y:Int)),1≤n∧n≤9:=fun n hn=>by
    have:=(List.mem_filter.1 hn).1
    rw[List.mem_range'] at this
    obtain⟨i,hi,rfl⟩:=this
    omega
  unfold AB0
  rw[Ar3 _ _ _ _ _ hF,Az7 _ _ fun n hn=>by have:=hF n hn;omega]
  have h0:x&&& (18446744073709551615-y)=0:=by
    rw[AS1] at h
    simpa using h
  have key:=B48 ⟨x,hx⟩ ⟨y,hy⟩ h0
  rw[show (flagT (x:Int) (y:Int))=fun n=>decide (¬((AC5 n&&& y)&&& (18446744073709551615-x))=0) from funext (BR7 x y)]
  rw[key]
/-- The numbers of pen.Change take the one pen to the other. -/
theorem BN0 {f r b tl tf tb:Int} (h:penB f r b=true) (h':penB tl tf tb=true):sgrL (f,r,b) (chL f r b tl tf tb)=(tl,tf,tb):=by
  have h:=(AM1 f r b).1 h
  have h':=(AM1 tl tf tb).1 h'
  have fin:∀a fo ba:Int,(0≤a∧a≤255)→iclr a tl=0→(tf≠fo→1≤tf)→(tb≠ba→1≤tb)→sgrL (a,fo,ba) (AB0 a tl 10++(if ¬tf=fo then q8 tf 30 else [])++(if ¬tb=ba then q8 tb 40 else []))=(tl,tf,tb):=by
    intro a fo ba ha hi hf hb
    rw[List.append_assoc,Bf5 ha h'.1 hi]
    have e1:sgrL (tl,fo,ba) ((if ¬tf=fo then q8 tf 30 else [])++(if ¬tb=ba then q8 tb 40 else []))=sgrL (tl,tf,ba) (if ¬tb=ba then q8 tb 40 else []):=by
      by_cases e:tf=fo
      · rw[if_neg (by simpa using e),List.nil_append,e]
      · rw[if_pos e,BL7 _ _ _ _ (by have:=hf e;omega)]
    rw[e1]
    by_cases e:tb=ba
    · rw[if_neg (by simpa using e),AZ0,e]
    · rw[if_pos e]
      have:=BJ7 tl tf ba tb (by have:=hb e;omega) []
      rw[List.append_nil] at this
      rw[this,AZ0]
  unfold chL chA
  by_cases hr:rst f r b tl tf tb
  · rw[if_pos hr]
    dsimp only
    rw[List.append_assoc,List.append_assoc,List.singleton_append,AS5 (by decide) (by decide),CH3 rfl,←List.append_assoc]
    exact fin 0 0 0 (by decide) (by rw[AS1];simp) (fun e=>by omega) (fun e=>by omega)
  · rw[if_neg hr]
    dsimp only
    rw[List.nil_append]
    unfold rst at hr
    exact fin f r b h.1 (by omega) (fun e=>by omega) (fun e=>by omega)
end
section
set_option maxHeartbeats 2000000
theorem B93 (n:Int) (h:0≤n∧n≤999):(argS n).size≤3:=by
  have key:∀k:Nat,k<1000→(argS (k:Int)).size≤3:=by decide+kernel
  have:=key n.toNat (by omega)
  rwa [Int.toNat_of_nonneg h.1] at this
theorem BE7 {L:List Int} (h0:L≠[]) (hl:L.length≤20) (hx:∀x∈L,0≤x∧x≤999):(l8 L).2=0∧(l8 L).1.size≤80:=by
  have e:l8 L=(textA L,0):=by
    unfold l8
    rw[if_neg,if_neg (by omega)]
    rintro (h|h)
    · exact h0 h
    · rw[List.any_eq_true] at h
      obtain⟨x,h1,h2⟩:=h
      have:=hx x h1
      unfold badA at h2
      simp at h2
      omega
  rw[e]
  refine⟨rfl,?_⟩
  dsimp only
  unfold textA
  have h1:=BK2 (L.map argS) semi
  have h2:((L.map argS).map (·.size)).sum≤(L.map argS).length * 3:=BT2 fun x hx'=>by
    rw[List.mem_map] at hx'
    obtain⟨z,hz,rfl⟩:=hx'
    exact B93 z (hx z hz)
  rw[List.length_map] at h1 h2
  have h3:semi.size=1:=rfl
  rw[h3] at h1
  omega
/-- The two commands of a drawing can be written. -/
theorem AJ8 {c:Int} (hc:c=72∨c=109) {L:List Int} (h0:L≠[]) (hl:L.length≤20) (hx':∀x∈L,0≤x∧x≤999):goodW (4,c,0,e0,L,e0)∧(Y9 (4,c,0,e0,L,e0)).length≤83∧runP Y4 (Y9 (4,c,0,e0,L,e0))=(Y4,[(4,c,0,e0,L,e0)])∧∀x∈Y9 (4,c,0,e0,L,e0),isR x∧x≠10∧x≠13:=by
  obtain⟨h1,h2⟩:=BE7 h0 hl hx'
  have hg:goodW (4,c,0,e0,L,e0):=BG5.2 ⟨⟨by omega,by omega,.inl rfl,⟨fun x hx=>(by rw[show nums e0=[] from by decide+kernel] at hx;cases hx),by decide⟩⟩,h1,by omega⟩
  have hk:=(A59 hg).2
  have hsoft:∀x∈Y9 (4,c,0,e0,L,e0),x≠10∧x≠13:=fun x hx=>by
    have hx:x∈(27::91::([]++(nums ((l8 L).1++e0)++[c]))):=hx
    have hw:=(AU1 h1).1
    have hn:=(AR6 L h0 (fun n hn=>by have:=hx' n hn;omega) (by omega)).1
    rw[hw,nums_append,show nums e0=[] from by decide+kernel,List.append_nil,List.nil_append] at hx
    rcases List.mem_cons.1 hx with h|hx
    · omega
    · rcases List.mem_cons.1 hx with h|hx
      · omega
      · rcases List.mem_append.1 hx with h|h
        · have:=AY0 (hn x h)
          omega
        · rw[List.mem_singleton] at h
          omega
  refine⟨hg,?_,hk.2.1,fun x hx=>⟨hk.2.2 x hx,hsoft x hx⟩⟩
  show (27::91::([]++(nums ((l8 L).1++e0)++[c]))).length≤83
  simp only[List.length_cons,List.length_append,List.length_nil,nums_length,ByteArray.size_append]
  have:e0.size=0:=rfl
  omega
theorem AC8 {f r b tl tf tb:Int} (h':penB tl tf tb=true):(chL f r b tl tf tb).length≤20∧∀x∈chL f r b tl tf tb,0≤x∧x≤999:=by
  have h':=(AM1 tl tf tb).1 h'
  have hp:∀c b,0≤c→(b=30∨b=40)→∀x∈q8 c b,0≤x∧x≤999:=fun c b hc hb x hx=>by
    unfold q8 at hx
    split at hx
    · rw[List.mem_singleton] at hx;omega
    · split at hx
      · rw[List.mem_singleton] at hx;omega
      · split at hx<;>simp only[List.mem_cons,List.not_mem_nil,or_false] at hx<;>omega
  have hfl:∀a t,∀x∈AB0 a t 10,0≤x∧x≤999:=fun a t x hx=>by
    unfold AB0 at hx
    rw[List.mem_map] at hx
    obtain⟨n,hn,rfl⟩:=hx
    have:=(List.mem_filter.1 hn).1
    rw[List.mem_range'] at this
    obtain⟨i,hi,rfl⟩:=this
    omega
  refine⟨?_,fun x hx=>?_⟩
  · have h1:=AZ3 (chA f r b tl tf tb).1 tl 10
    have h2:=AK4 tf 30
    have h3:=AK4 tb 40
    have h4:(chA f r b tl tf tb).2.2.2.length≤1:=by unfold chA;split<;>simp
    unfold chL
    dsimp only
    rw[List.length_append,List.length_append,List.length_append]
    split<;>split<;>simp<;>omega
  · unfold chL at hx
    dsimp only at hx
    rw[List.mem_append,List.mem_append,List.mem_append] at hx
    rcases hx with ((hx|hx)|hx)|hx
    · unfold chA at hx
      split at hx
      · rw[List.mem_singleton] at hx;omega
      · cases hx
    · exact hfl _ _ x hx
    · split at hx
      · exact hp tf 30 (by omega) (.inl rfl) x hx
      · cases hx
    · split at hx
      · exact hp tb 40 (by omega) (.inr rfl) x hx
      · cases hx
/-- A rune with a width can be shown. -/
theorem Ao6 {c:Int} (h:H5 c≠0):cpR c∧0≤c∧(H5 c=1∨H5 c=2):=by
  have hb:=BH8 c
  rw[Aa6] at hb
  have hno:¬(c<0∨1114111<c∨inTab c K4=true):=fun hh=>h (by rw[←Aa6];unfold R8;rw[if_pos hh])
  have h1:∀x∈K4,¬(x.1≤c∧c≤x.2):=fun x hx hc=>hno (.inr (.inr (by unfold inTab;rw[List.any_eq_true];exact⟨x,hx,decide_eq_true hc⟩)))
  have a1:=h1 (0,31) (by unfold K4;simp)
  have a2:=h1 (127,159) (by unfold K4;simp)
  have a3:=h1 (55296,57343) (by unfold K4;simp)
  dsimp only at a1 a2 a3
  refine⟨⟨by unfold isR;omega,by omega⟩,by omega,by omega⟩
theorem BS6 {c:Int} (h:H5 c≠0):runP Y4 [c]=(Y4,[(1,c,0,e0,[],e0)]):=by
  have hg:goodW (1,c,0,e0,[],e0):=B00.2 (Ao6 h).1
  exact(A59 hg).2.2.1
/-- Runes that tell these acts, and leave nothing under way. -/
def Says (L:List Int) (A:List Pa):Prop:=runP Y4 L=(Y4,A)∧∀x∈L,isR x∧x≠10∧x≠13
theorem Says.nil:Says [] []:=⟨rfl,fun _ h=>nomatch h⟩
theorem Says.app {L L2:List Int} {A A2:List Pa} (h:Says L A) (h2:Says L2 A2):Says (L++L2) (A++A2):=by
  refine⟨?_,fun x hx=>?_⟩
  · rw[AY6,h.1]
    dsimp only
    rw[h2.1]
  · rcases List.mem_append.1 hx with hx|hx
    · exact h.2 x hx
    · exact h2.2 x hx
theorem Says.rune {c:Int} (h:H5 c≠0):Says [c] [(1,c,0,e0,[],e0)]:=⟨BS6 h,fun x hx=>by rw[List.mem_singleton] at hx;subst hx;have h2:=(Ao6 h).1;exact⟨h2.1,by have:=h2.2;omega⟩⟩
abbrev aH (r c:Int):Pa:=(4,72,0,e0,[r,c],e0)
abbrev hD (r c:Int):List Int:=Y9 (aH r c)
theorem Says.at {r c:Int} (hr:0≤r∧r≤999) (hc:0≤c∧c≤999):Says (hD r c) [aH r c]:=by
  obtain⟨-,-,h3,h4⟩:=AJ8 (.inl rfl) (L:=[r,c]) (by simp) (by simp) (by simp;omega)
  exact⟨h3,h4⟩
/-- The acts that take a pen to another one. -/
def aTo (f r b tl tf tb:Int):List Pa:=if chL f r b tl tf tb=[] then [] else [(4,109,0,e0,chL f r b tl tf tb,e0)]
theorem Says.to {f r b tl tf tb:Int} (h':penB tl tf tb=true):Says (toD f r b tl tf tb) (aTo f r b tl tf tb)∧(toD f r b tl tf tb).length≤83:=by
  obtain⟨h1,h2⟩:=AC8 (f:=f) (r:=r) (b:=b) h'
  unfold toD aTo
  by_cases h0:chL f r b tl tf tb=[]
  · rw[if_pos h0,if_pos h0]
    exact⟨Says.nil,by simp⟩
  · rw[if_neg h0,if_neg h0]
    obtain⟨-,h3,h4,h5⟩:=AJ8 (.inr rfl) h0 h1 h2
    exact⟨⟨h4,h5⟩,h3⟩
/-- What is written of a cell, of a row, of all rows. -/
def cellD (st:List Int×Tri) (q:Qd):List Int×Tri:=if q.1=0 then st else (st.1++toD st.2.1 st.2.2.1 st.2.2.2 q.2.1 q.2.2.1 q.2.2.2++[q.1],q.2)
def rowD (C0 C:List Qd) (w:Nat) (st:List Int×Tri) (n:Nat):List Int×Tri:=if rowQ w C0 n=rowQ w C n then st else (rowQ w C n).foldl cellD (st.1++hD ((n:Int)+1) 1,st.2)
def rowsD (C0 C:List Qd) (w:Nat) (p:Tri) (k:Nat):List Int×Tri:=(List.range k).foldl (rowD C0 C w) ([],p)
def cellA (st:List Pa×Tri) (q:Qd):List Pa×Tri:=if q.1=0 then st else (st.1++aTo st.2.1 st.2.2.1 st.2.2.2 q.2.1 q.2.2.1 q.2.2.2++[(1,q.1,0,e0,[],e0)],q.2)
def rowA (C0 C:List Qd) (w:Nat) (st:List Pa×Tri) (n:Nat):List Pa×Tri:=if rowQ w C0 n=rowQ w C n then st else (rowQ w C n).foldl cellA (st.1++[aH ((n:Int)+1) 1],st.2)
def rowsA (C0 C:List Qd) (w:Nat) (p:Tri) (k:Nat):List Pa×Tri:=(List.range k).foldl (rowA C0 C w) ([],p)
/-- A cell that may stand in a grid. -/
def celR (q:Qd):Prop:=penB q.2.1 q.2.2.1 q.2.2.2=true∧(q.1=0∨H5 q.1≠0)
theorem BQ2 {L:List Int} {A:List Pa} {p:Tri} {q:Qd} (h:Says L A) (hq:celR q):Says (cellD (L,p) q).1 (cellA (A,p) q).1∧(cellD (L,p) q).2=(cellA (A,p) q).2∧(cellD (L,p) q).1.length≤L.length+84:=by
  unfold cellD cellA
  by_cases h0:q.1=0
  · rw[if_pos h0,if_pos h0]
    exact⟨h,rfl,Nat.le_add_right _ _⟩
  · rw[if_neg h0,if_neg h0]
    dsimp only
    obtain⟨h1,h2⟩:=Says.to (f:=p.1) (r:=p.2.1) (b:=p.2.2) hq.1
    refine⟨(h.app h1).app (Says.rune (hq.2.resolve_left h0)),rfl,?_⟩
    rw[List.length_append,List.length_append,List.length_singleton]
    omega
theorem Al7:∀(R:List Qd) (L:List Int) (A:List Pa) (p:Tri),Says L A→(∀q∈R,celR q)→Says (R.foldl cellD (L,p)).1 (R.foldl cellA (A,p)).1∧(R.foldl cellD (L,p)).2=(R.foldl cellA (A,p)).2∧(R.foldl cellD (L,p)).1.length≤L.length+84 * R.length
  | [],_,_,_,h,_=>⟨h,rfl,Nat.le_add_right _ _⟩
  | q::R,L,A,p,h,hR=>by
    obtain⟨h1,h2,h3⟩:=BQ2 (p:=p) h (hR q List.mem_cons_self)
    rw[List.foldl_cons,List.foldl_cons]
    obtain⟨g1,g2,g3⟩:=Al7 R (cellD (L,p) q).1 (cellA (A,p) q).1 (cellD (L,p) q).2 h1 fun x hx=>hR x (List.mem_cons_of_mem _ hx)
    rw[show (cellA (A,p) q)=((cellA (A,p) q).1,(cellD (L,p) q).2) from by rw[h2],show (cellD (L,p) q)=((cellD (L,p) q).1,(cellD (L,p) q).2) from rfl]
    refine⟨g1,g2,?_⟩
    rw[List.length_cons]
    omega
theorem AZ2 {w:Nat} {C:List Qd} {k:Nat} {q:Qd} (h:q∈rowQ w C k):q∈C:=List.mem_of_mem_drop (List.mem_of_mem_take h)
theorem Bk8 {C0 C:List Qd} {w n:Nat} {L:List Int} {A:List Pa} {p:Tri} (h:Says L A) (hC:∀q∈C,celR q) (hn:n≤900):Says (rowD C0 C w (L,p) n).1 (rowA C0 C w (A,p) n).1∧(rowD C0 C w (L,p) n).2=(rowA C0 C w (A,p) n).2∧(rowD C0 C w (L,p) n).1.length≤L.length+83+84 * w:=by
  unfold rowD rowA
  by_cases e:rowQ w C0 n=rowQ w C n
  · rw[if_pos e,if_pos e]
    exact⟨h,rfl,by dsimp only;omega⟩
  · rw[if_neg e,if_neg e]
    have h2:(hD ((n:Int)+1) 1).length≤83:=(AJ8 (c:=72) (.inl rfl) (L:=[(n:Int)+1,1]) (by simp) (by simp) (by simp;omega)).2.1
    obtain⟨g1,g2,g3⟩:=Al7 (rowQ w C n) (L++hD ((n:Int)+1) 1) (A++[aH ((n:Int)+1) 1]) p (h.app (Says.at (by omega) (by omega))) fun q hq=>hC q (AZ2 hq)
    refine⟨g1,g2,?_⟩
    rw[List.length_append] at g3
    have hl:(rowQ w C n).length≤w:=by unfold rowQ;rw[List.length_take];omega
    dsimp only at g3 ⊢
    omega
theorem Ad6 {C0 C:List Qd} {w:Nat} {p:Tri} (hC:∀q∈C,celR q):∀k,k≤60→Says (rowsD C0 C w p k).1 (rowsA C0 C w p k).1∧(rowsD C0 C w p k).2=(rowsA C0 C w p k).2∧(rowsD C0 C w p k).1.length≤k * (83+84 * w)
  | 0,_=>⟨Says.nil,rfl,Nat.zero_le _⟩
  | k+1,hk=>by
    obtain⟨h1,h2,h3⟩:=Ad6 hC k (by omega)
    unfold rowsD rowsA at *
    rw[List.range_succ,List.foldl_append,List.foldl_append,List.foldl_cons,List.foldl_nil,List.foldl_cons,List.foldl_nil]
    generalize (List.range k).foldl (rowD C0 C w) ([],p)=x at *
    generalize (List.range k).foldl (rowA C0 C w) ([],p)=y at *
    obtain⟨L,q⟩:=x
    obtain⟨A,q2⟩:=y
    dsimp only at h1 h2 h3
    subst h2
    obtain⟨g1,g2,g3⟩:=Bk8 (C0:=C0) (C:=C) (w:=w) (n:=k) (p:=q) h1 hC (by omega)
    refine⟨g1,g2,?_⟩
    rw[Nat.succ_mul]
    omega
theorem Au1:∀(R:List Qd) (L:List Int) (p:Tri),(∀q∈R,celR q)→(R.foldl cellD (L,p)).1.length≤L.length+84 * R.length
  | [],_,_,_=>Nat.le_add_right _ _
  | q::R,L,p,hR=>by
    rw[List.foldl_cons]
    have hq:=hR q List.mem_cons_self
    have h2:(cellD (L,p) q).1.length≤L.length+84:=by
      unfold cellD
      split
      · exact Nat.le_add_right _ _
      · dsimp only
        have:=(Says.to (f:=p.1) (r:=p.2.1) (b:=p.2.2) hq.1).2
        rw[List.length_append,List.length_append,List.length_singleton]
        omega
    have h3:=Au1 R (cellD (L,p) q).1 (cellD (L,p) q).2 fun x hx=>hR x (List.mem_cons_of_mem _ hx)
    rw[List.length_cons]
    rw[show ((cellD (L,p) q).1,(cellD (L,p) q).2)=cellD (L,p) q from rfl] at h3
    omega
theorem Ad9:∀(R:List Qd) (L:List Int) (p:Tri),penB p.1 p.2.1 p.2.2=true→(∀q∈R,celR q)→penB (R.foldl cellD (L,p)).2.1 (R.foldl cellD (L,p)).2.2.1 (R.foldl cellD (L,p)).2.2.2=true
  | [],_,_,h,_=>h
  | q::R,L,p,h,hR=>by
    rw[List.foldl_cons]
    have hq:=hR q List.mem_cons_self
    have h2:penB (cellD (L,p) q).2.1 (cellD (L,p) q).2.2.1 (cellD (L,p) q).2.2.2=true:=by
      unfold cellD
      split
      · exact h
      · exact hq.1
    exact Ad9 R (cellD (L,p) q).1 (cellD (L,p) q).2 h2 fun x hx=>hR x (List.mem_cons_of_mem _ hx)
theorem Aa0 (C0 C:List Qd) (w:Nat) (p:Tri) (k:Nat):rowsD C0 C w p (k+1)=rowD C0 C w (rowsD C0 C w p k) k:=by
  unfold rowsD
  rw[List.range_succ,List.foldl_append,List.foldl_cons,List.foldl_nil]
theorem A61 {C0 C:List Qd} {w:Nat} {p:Tri} (hp:penB p.1 p.2.1 p.2.2=true) (hC:∀q∈C,celR q):∀k,penB (rowsD C0 C w p k).2.1 (rowsD C0 C w p k).2.2.1 (rowsD C0 C w p k).2.2.2=true
  | 0=>hp
  | k+1=>by
    have ih:=A61 (C0:=C0) (w:=w) hp hC k
    rw[Aa0]
    generalize rowsD C0 C w p k=x at *
    unfold rowD
    split
    · exact ih
    · exact Ad9 _ _ _ ih fun q hq=>hC q (AZ2 hq)
/-- All that is written, and the acts that it tells. -/
def drawD (C0 C:List Qd) (w h:Nat) (p p2:Tri) (r c:Int):List Int:=(rowsD C0 C w p h).1++toD (rowsD C0 C w p h).2.1 (rowsD C0 C w p h).2.2.1 (rowsD C0 C w p h).2.2.2 p2.1 p2.2.1 p2.2.2++hD (r+1) (c+1)
def drawA (C0 C:List Qd) (w h:Nat) (p p2:Tri) (r c:Int):List Pa:=(rowsA C0 C w p h).1++aTo (rowsA C0 C w p h).2.1 (rowsA C0 C w p h).2.2.1 (rowsA C0 C w p h).2.2.2 p2.1 p2.2.1 p2.2.2++[aH (r+1) (c+1)]
theorem Ar2 {C0 C:List Qd} {w h:Nat} {p p2:Tri} {r c:Int} (hC:∀q∈C,celR q) (hw:w≤160) (hh:h≤60) (hp:penB p2.1 p2.2.1 p2.2.2=true) (hr:0≤r∧r≤900) (hc:0≤c∧c≤900):Says (drawD C0 C w h p p2 r c) (drawA C0 C w h p p2 r c)∧(drawD C0 C w h p p2 r c).length≤820000:=by
  obtain⟨h1,h2,h3⟩:=Ad6 (C0:=C0) (w:=w) (p:=p) hC h hh
  unfold drawD drawA
  rw[←h2]
  generalize rowsD C0 C w p h=x at *
  obtain⟨g1,g2⟩:=Says.to (f:=x.2.1) (r:=x.2.2.1) (b:=x.2.2.2) hp
  have k2:(hD (r+1) (c+1)).length≤83:=(AJ8 (c:=72) (.inl rfl) (L:=[r+1,c+1]) (by simp) (by simp) (by simp;omega)).2.1
  refine⟨(h1.app g1).app (Says.at (by omega) (by omega)),?_⟩
  rw[List.length_append,List.length_append]
  have h4:h * (83+84 * w)≤60 * (83+84 * 160):=Nat.mul_le_mul hh (by omega)
  omega
end
section
set_option maxHeartbeats 2000000
theorem Ai6 {a:Int} (h:(needU a).1≠0):longU [a]=(1,false):=by
  unfold longU
  rw[if_neg (by simpa using h),if_pos (by simp)]
theorem A17 {a b n lo hi:Int} (h:needU a=(n,lo,hi)) (hn:2≤n) (hb:lo≤b∧b≤hi):longU [a,b]=(2,false):=by
  unfold longU
  rw[show ([a,b]:List Int).getD 0 0=a from rfl,show ([a,b]:List Int).getD 1 0=b from rfl,h]
  dsimp only
  rw[if_neg (by omega),if_neg (by simp;omega),if_pos (by simp),decide_eq_false (by omega)]
theorem BH1 {a b c lo hi:Int} (h:needU a=(3,lo,hi)) (hb:lo≤b∧b≤hi) (hc:128≤c∧c≤191):longU [a,b,c]=(3,false):=by
  unfold longU
  rw[show ([a,b,c]:List Int).getD 0 0=a from rfl,show ([a,b,c]:List Int).getD 1 0=b from rfl,show ([a,b,c]:List Int).getD 2 0=c from rfl,h]
  dsimp only
  rw[if_neg (by omega),if_neg (by simp;omega),if_neg (by simp;omega),if_pos (by simp),decide_eq_false (by omega)]
theorem Ar4 {x:Int} (h:isR x) {t:Nat} (h0:0<t) (ht:t<(runeL x).length):longU ((runeL x).take t)=((t:Int),false):=by
  rcases AF7 h with ⟨h1,e⟩|⟨h1,e⟩|⟨h1,e⟩|⟨h1,e⟩<;>rw[e] at ht ⊢<;>simp only[List.length_cons,List.length_nil] at ht
  · omega
  · obtain rfl:t=1:=by omega
    rcases AC2 (192+x / 64) with ⟨_,_,hn⟩|⟨h3,hn⟩|⟨h3,hn⟩|⟨_,_,_,hn⟩|⟨h3,hn⟩|⟨h3,hn⟩|⟨_,_,hn⟩|⟨_,hn⟩
    all_goals (exact Ai6 (by rw[hn];dsimp only;omega))
  · obtain rfl|rfl:t=1∨t=2:=by omega
    · rcases AC2 (224+x / 4096) with ⟨_,_,hn⟩|⟨h3,hn⟩|⟨h3,hn⟩|⟨_,_,_,hn⟩|⟨h3,hn⟩|⟨h3,hn⟩|⟨_,_,hn⟩|⟨_,hn⟩
      all_goals (exact Ai6 (by rw[hn];dsimp only;omega))
    · rcases AC2 (224+x / 4096) with ⟨_,_,hn⟩|⟨h3,hn⟩|⟨h3,hn⟩|⟨_,_,_,hn⟩|⟨h3,hn⟩|⟨h3,hn⟩|⟨_,_,hn⟩|⟨_,hn⟩
      all_goals (first|(exfalso;omega)|(exact A17 hn (by omega) (by omega)))
  · obtain rfl|rfl|rfl:t=1∨t=2∨t=3:=by omega
    · rcases AC2 (240+x / 262144) with ⟨_,_,hn⟩|⟨h3,hn⟩|⟨h3,hn⟩|⟨_,_,_,hn⟩|⟨h3,hn⟩|⟨h3,hn⟩|⟨_,_,hn⟩|⟨_,hn⟩
      all_goals (first|(exfalso;omega)|(exact Ai6 (by rw[hn];dsimp only;omega)))
    · rcases AC2 (240+x / 262144) with ⟨_,_,hn⟩|⟨h3,hn⟩|⟨h3,hn⟩|⟨_,_,_,hn⟩|⟨h3,hn⟩|⟨h3,hn⟩|⟨_,_,hn⟩|⟨_,hn⟩
      all_goals (first|(exfalso;omega)|(exact A17 hn (by omega) (by omega)))
    · rcases AC2 (240+x / 262144) with ⟨_,_,hn⟩|⟨h3,hn⟩|⟨h3,hn⟩|⟨_,_,_,hn⟩|⟨h3,hn⟩|⟨h3,hn⟩|⟨_,_,hn⟩|⟨_,hn⟩
      all_goals (first|(exfalso;omega)|(exact BH1 hn (by omega) (by omega)))
theorem BU3 {x:Int} (h:isR x) {t:Nat} (h0:0<t) (ht:t<(runeL x).length):stepU ((runeL x).take t)=none:=by
  have hl:=Ar4 h h0 ht
  have hx:¬x<128:=fun hx=>by
    rcases AF7 h with ⟨h1,e⟩|⟨h1,e⟩|⟨h1,e⟩|⟨h1,e⟩
    · rw[e] at ht
      simp at ht
      omega
    all_goals omega
  have hh:=(Au4 h []).2 hx
  rw[List.append_nil] at hh
  have e:((runeL x).take t).getD 0 0=(runeL x).getD 0 0:=by
    rw[List.getD_eq_getElem?_getD,List.getElem?_take_of_lt h0,List.getD_eq_getElem?_getD]
  unfold stepU
  rw[e,if_neg hh,hl]
  dsimp only
  rw[if_neg (by decide),if_pos ⟨by omega,by rw[List.length_take];omega⟩]
theorem AT4 {x:Int} {R:List Int} (h:isR x):encL (x::R)=runeL x++encL R:=by rw[AJ4,AO6 h]
theorem BD8:∀(R:List Int) (n m:Nat),(∀x∈R,isR x)→n≤(encL R).length→n≤m→∃k,k≤R.length∧runU m ((encL R).take n)=((encL (R.drop k)).take (n-(encL (R.take k)).length),R.take k)∧(encL (R.take k)).length≤n∧(n=(encL (R.take k)).length∨∃x,R[k]? =some x∧n-(encL (R.take k)).length<(runeL x).length)
  | [],n,m,_,hn,_=>by
    have hz:(encL ([]:List Int)).length=0:=rfl
    obtain rfl:n=0:=by omega
    exact⟨0,Nat.le_refl _,by rw[List.take_zero,Af1];rfl,Nat.le_refl _,.inl rfl⟩
  | x::R,n,m,hR,hn,hm=>by
    have hx:=hR x List.mem_cons_self
    have hp:=AP7 x
    rw[AT4 hx] at hn ⊢
    by_cases h1:n<(runeL x).length
    · have e:(runeL x++encL R).take n=(runeL x).take n:=by rw[List.take_append_of_le_length (by omega)]
      refine⟨0,Nat.zero_le _,?_,Nat.zero_le _,.inr ⟨x,rfl,by show n-0<_;omega⟩⟩
      rw[List.drop_zero,AT4 hx,List.take_zero]
      show runU m ((runeL x++encL R).take n)=((runeL x++encL R).take (n-0),[])
      rw[e,Nat.sub_zero,e]
      by_cases h0:n=0
      · subst h0
        rw[List.take_zero,Af1]
      · exact Az6 m (fun e0=>by have h9:=congrArg List.length e0;rw[List.length_take,List.length_nil] at h9;omega) (BU3 hx (by omega) h1)
    · have e:(runeL x++encL R).take n=runeL x++(encL R).take (n-(runeL x).length):=by rw[List.take_append,List.take_of_length_le (by omega)]
      rw[List.length_append] at hn
      obtain⟨k,k1,k2,k3,k4⟩:=BD8 R (n-(runeL x).length) (m-1) (fun y hy=>hR y (List.mem_cons_of_mem _ hy)) (by omega) (by omega)
      have el:(encL ((x::R).take (k+1))).length=(runeL x).length+(encL (R.take k)).length:=by
        rw[List.take_succ_cons,AT4 hx,List.length_append]
      refine⟨k+1,by rw[List.length_cons];omega,?_,by rw[el];omega,?_⟩
      · rw[e,AZ5 (by omega) (fun e=>by rw[List.append_eq_nil_iff] at e;rw[e.1] at hp;simp at hp) (Au2 hx _),List.drop_left',k2,el,List.drop_succ_cons,List.take_succ_cons,show n-((runeL x).length+(encL (R.take k)).length)=n-(runeL x).length-(encL (R.take k)).length from by omega]
        rfl
      · rw[el]
        rcases k4 with k4|⟨y,k4,k5⟩
        · exact .inl (by omega)
        · exact .inr ⟨y,by rw[List.getElem?_cons_succ];exact k4,by omega⟩
/-- A part that is no whole rune. -/
def partR (R:List Int) (t:Nat):Prop:=t=0∨∃x,R[0]? =some x∧t<(runeL x).length
theorem Aq5 (A B:List Int):encL (A++B)=encL A++encL B:=by unfold encL;rw[List.flatMap_append]
theorem A89 {R:List Int} {t:Nat} (hR:∀x∈R,isR x) (ht:partR R t):chkU ((encL R).take t)=0:=by
  rcases ht with rfl|⟨x,h1,h2⟩
  · rw[List.take_zero]
    unfold chkU
    rw[if_pos (.inl rfl)]
  · by_cases h0:t=0
    · subst h0
      rw[List.take_zero]
      unfold chkU
      rw[if_pos (.inl rfl)]
    · cases R with
      | nil=>cases h1
      | cons y R=>
        cases h1
        have hx:=hR x List.mem_cons_self
        have hl:=Ar4 hx (by omega) h2
        rw[AT4 hx,List.take_append_of_le_length (by omega)]
        unfold chkU
        refine if_pos (.inr ?_)
        unfold partU
        rw[hl]
        exact⟨rfl,by rw[List.length_take];dsimp only;omega⟩
theorem AR0 (R:List Int) (a b:Nat):∀x∈((encL R).drop a).take b,0≤x∧x≤255:=fun x hx=>AH7 R x (List.mem_of_mem_drop (List.mem_of_mem_take hx))
/-- One piece read. -/
theorem BI0 {R:List Int} (hR:∀x∈R,isR x) {t c:Nat} (ht:partR R t) (hc:t+c≤(encL R).length):∃k t',feedU (strOfNums ((encL R).take t)) (strOfNums (((encL R).drop t).take c))=(strOfNums ((encL (R.drop k)).take t'),R.take k,0)∧partR (R.drop k) t'∧(encL (R.drop k)).drop t'=(encL R).drop (t+c)∧k≤R.length∧t'≤(encL (R.drop k)).length:=by
  have e1:nums (strOfNums ((encL R).take t))=(encL R).take t:=Y8 fun x hx=>AH7 R x (List.mem_of_mem_take hx)
  have e2:nums (strOfNums (((encL R).drop t).take c))=((encL R).drop t).take c:=Y8 (AR0 R t c)
  have e3:(encL R).take t++((encL R).drop t).take c=(encL R).take (t+c):=List.take_add.symm
  have ez:(strOfNums ((encL R).take t)++strOfNums (((encL R).drop t).take c)).size=t+c:=by
    rw[←nums_length,nums_append,e1,e2,e3,List.length_take]
    omega
  obtain⟨k,k1,k2,k3,k4⟩:=BD8 R (t+c) (t+c) hR hc (Nat.le_refl _)
  have es:encL R=encL (R.take k)++encL (R.drop k):=by rw[←Aq5,List.take_append_drop]
  refine⟨k,t+c-(encL (R.take k)).length,?_,?_,?_,k1,?_⟩
  · unfold feedU
    rw[e1,A89 hR ht,if_neg (by simp),nums_append,e1,e2,e3,ez,k2]
  · rcases k4 with k4|⟨x,k4,k5⟩
    · exact .inl (by omega)
    · exact .inr ⟨x,by rw[List.getElem?_drop];simpa using k4,k5⟩
  · conv=>rhs;rw[es]
    rw[List.drop_append,List.drop_of_length_le k3,List.nil_append]
  · have:=congrArg List.length es
    rw[List.length_append] at this
    omega
end
section
set_option maxHeartbeats 2000000
/-- No byte ends a line, none begins a command. -/
def softB (d:ByteArray):Prop:=∀b∈d.data.toList,b≠10∧b≠13∧b≠255
theorem Bg0 {d:ByteArray} (h:softB d):strOfNums (u8s (d.data.toList.flatMap Go.Fw.outB))=d:=by
  rw[As7,Ag1 _ fun b hb=>by unfold Go.Fw.outB;rw[if_neg (h b hb).1,if_neg (h b hb).2.1]]
theorem Bp1 {d:ByteArray} (h:softB d):escS d=d:=by
  unfold escS B88
  rw[Ag1 d.data.toList fun b hb=>by rw[if_neg (h b hb).2.2]]
theorem B27 {d:ByteArray} (h:softB d):(mIn false d.data.toList).1=false∧strOfNums (u8s (mIn false d.data.toList).2)=d:=by
  rw[BT0 _ fun hm=>(h 13 hm).2.1 rfl]
  exact⟨rfl,As7 _⟩
theorem As5:∀(l:List Int) (r:Rc),r.mode=0→(∀x∈l,x≠255)→l.foldl Rc.take r={r with data:=r.data++l}
  | [],r,_,_=>by rw[List.append_nil];rfl
  | x::l,r,hm,hl=>by
    have hx:=hl x List.mem_cons_self
    rw[List.foldl_cons]
    have e:r.take x={r with data:=r.data++[x]}:=by
      unfold Rc.take
      rw[if_pos hm,if_neg hx]
    rw[e,As5 l {r with data:=r.data++[x]} hm fun y hy=>hl y (List.mem_cons_of_mem _ hy)]
    simp
theorem BV0 {d:ByteArray} (h:softB d) (hz:d.size≠0):(feedR 0 0 0 ⟨#[]⟩ false d).out=[(1,0,0,d)]∧(feedR 0 0 0 ⟨#[]⟩ false d).mode=0∧(feedR 0 0 0 ⟨#[]⟩ false d).cmd=0∧(feedR 0 0 0 ⟨#[]⟩ false d).opt=0∧(feedR 0 0 0 ⟨#[]⟩ false d).buf=[]∧(feedR 0 0 0 ⟨#[]⟩ false d).over=false:=by
  have hn:nums d≠[]:=fun e=>hz (by rw[←nums_length,e];rfl)
  have h255:∀x∈nums d,x≠255:=fun x hx=>by
    unfold nums at hx
    rw[List.mem_map] at hx
    obtain⟨b,hb,rfl⟩:=hx
    intro e
    have:b.toNat=255:=by omega
    exact(h b hb).2.2 (by rw[←UInt8.toNat_inj,this];rfl)
  have he:nums (⟨#[]⟩:ByteArray)=[]:=rfl
  unfold feedR
  rw[As5 _ _ rfl h255,he]
  unfold Rc.flush
  rw[if_neg (show ¬([]++nums d)=[] from hn)]
  refine⟨?_,rfl,rfl,rfl,rfl,rfl⟩
  show []++[dtok ([]++nums d)]=_
  unfold dtok
  rw[List.nil_append,List.nil_append,Z6]
/-- The runes of a drawing are such bytes. -/
theorem A13 {R:List Int} (h:∀x∈R,isR x∧x≠10∧x≠13):∀b∈encL R,b≠10∧b≠13∧b≠255:=fun b hb=>by
  unfold encL at hb
  rw[List.mem_flatMap] at hb
  obtain⟨x,hx,hb⟩:=hb
  obtain⟨hr,h10,h13⟩:=h x hx
  rw[AO6 hr] at hb
  rcases AF7 hr with ⟨h1,e⟩|⟨h1,e⟩|⟨h1,e⟩|⟨h1,e⟩<;>rw[e] at hb<;>simp only[List.mem_cons,List.not_mem_nil,or_false] at hb<;>omega
theorem A57 {l:List Int} (h8:∀x∈l,0≤x∧x≤255) (h:∀b∈l,b≠10∧b≠13∧b≠255):softB (strOfNums l):=fun b hb=>by
  have hm:((b.toNat:Nat):Int)∈nums (strOfNums l):=by
    unfold nums
    exact List.mem_map_of_mem hb
  rw[Y8 h8] at hm
  have:=h _ hm
  refine⟨fun e=>?_,fun e=>?_,fun e=>?_⟩
  · rw[e] at this;exact this.1 rfl
  · rw[e] at this;exact this.2.1 rfl
  · rw[e] at this;exact this.2.2 rfl
end
section
set_option maxHeartbeats 2000000
attribute [local irreducible] SW SL SQ AtQ SV SC BB LD PK Yields SO SOT SOA SY negC
theorem Bg6 (G:Ctx) (H:List Ent) (zp:ByteArray) (za zb:Int) (zi zg zt:ByteArray) (yp:ByteArray) (ya yb:Int) (yi yg yt:ByteArray) (hzp:zp.size≤1000000) (hzu:chkU (nums zp)=0) (hzq:okP (za,zb,zi,zg,zt)) (hzi:zi.size≤1000000) (hzg:zg.size≤1000000) (M:Int) (hM:∀H w,Holds G H w→w.cell? ⟨2,0,none⟩=some (.int .i64 M)) (hT:∀H w,Holds G H w→Lib.Utf8Tabs 0 1 w) (s:Scr) (f:Fre s) (S P:List Value) (h:CliS G H s S P)
    (d:ByteArray) (hs:softB d) (hd:d.size≠0∧d.size≤4096) (L:List Int) (hf:feedU zp d=(yp,L,0)) (hL:L.length≤4000000) (B:List Pa) (hP:runP (za,zb,zi,zg,zt) L=((ya,yb,yi,yg,yt),B)) (hg:goodD s B):
    SC Tryz.prog G 18 [.agg (wkD zp za zb zi zg zt S (negC Y6 z8) P (octs kAll) (cliX ⟨#[]⟩ false)).toArray,.agg (evC 1 d 0 0).toArray] H fun v H'=>∃S2 P2 E,v= .tuple #[.agg (wkD yp ya yb yi yg yt S2 (negC Y6 z8) P2 (octs kAll) (cliX ⟨#[]⟩ false)).toArray,.string ⟨#[]⟩,.int .i64 0]∧H'=E++H∧CliS G E (runD s B) S2 P2:=by
  haveI:Len (negC Y6 z8) 520:=⟨AE8 AD0 rfl⟩
  haveI:Len (octs kAll) 38:=⟨by rw[AA7];exact o6 _⟩
  obtain⟨a1,a2⟩:=A07
  obtain⟨o1,o2⟩:=BV0 hs hd.1
  obtain⟨i1,i2⟩:=B27 hs
  refine Br6 G H zp za zb zi zg zt yp ya yb yi yg yt hzp hzu hzq hzi hzg M hM s (runD s B) f S P (negC Y6 z8) (negC Y6 z8) (octs kAll) h ⟨#[]⟩ ⟨#[]⟩ false false _ (by decide) (AB5 _ _) (AB5 _ _) (AG2 _) (fun H'=>?_) (fun H'=>?_) _ rfl rfl (fun H' wb S' P' hS'=>?_)
  · have h:=AV0 G H' Y6 z8 AD0 rfl Az0.1
    rwa [A34] at h
  · have h:=AV1 G H' kAll (o6 _)
    rwa [Ap7] at h
  · obtain⟨hs1,na,nc,va,vc,rfl,-⟩:=hS'
    haveI:Len S' 33:=⟨hs1.len⟩
    have hm:S'[11]? =some (.int .i64 s.modes):=by
      obtain⟨ga,gn,gc,oa,on,oc,pa,pn,pc,X,rfl,-⟩:=hs1
      rfl
    refine AI2 (B25 G H' zp za zb zi zg zt yp ya yb yi yg yt wb S' (negC Y6 z8) _ (octs kAll) _ s.modes hm d (runD s B) (fun H2 hh=>Bb6 G H2 zp za zb zi zg zt yp ya yb yi yg yt (runD s B) wb S' (negC Y6 z8) _ _ _ (octs kAll) _ rfl d hd.2 o1 o2 (fun H3 hh3=>Be9 G H3 M hM hT zp za zb zi zg zt hzp hzq s f wb S' (negC Y6 z8) _ _ _ (octs kAll) _ rfl (hs1.mono fun w hw=>hh w (hh3 w hw)) 0 (by rw[Al0 z8 AD0 256 (by decide),a1]) rfl d (by omega) i1 i2 yp L 0 hf hL ya yb yi yg yt B hP hg))) fun v H''=>?_
    rintro ⟨S2,F,rfl,rfl,hF⟩
    exact⟨S2,F,rfl,rfl,.inl hF⟩
theorem A40 (G:Ctx) (H:List Ent) (S T:List Value) (w h:Nat) (C:List Qd) (ga:Option Addr) (gn gc:Nat) (ta:Option Addr) (tn tc:Nat) (row col:Int) (f1 f2 f3:Int) (hSb:Nat.beq S.length 33=true) (hTb:Nat.beq T.length 33=true) (sg:take? (S.drop 0) 3=some [.int .i64 w,.int .i64 h,.slice ga gn gc]) (tg:take? (T.drop 0) 3=some [.int .i64 w,.int .i64 h,.slice ta tn tc]) (srow:S[3]? =some (.int .i64 row)) (scol:S[4]? =some (.int .i64 col)) (spen:take? (S.drop 8) 3=some [.int .i64 f1,.int .i64 f2,.int .i64 f3]) (trow:T[3]? =some (.int .i64 row)) (tcol:T[4]? =some (.int .i64 col)) (tpen:take? (T.drop 8) 3=some [.int .i64 f1,.int .i64 f2,.int .i64 f3]) [h1:RdC G H ga (qds C)] [h2:RdC G H ta (qds C)] (hgn:gn=C.length) (htn:tn=C.length) (hm:C.length≤100000):
    SV Tryz.prog G 20 [.agg S.toArray,.agg T.toArray] H (.bool true):=by
  have cG:=fun (H:List Ent) [RdC G H ga (qds C)] [RdC G H ta (qds C)]=>BC5 G H C C w h w h ga ta gn tn gc tc rfl rfl hgn htn (by omega) (by omega) rfl rfl rfl
  refine P7 Tryz.func20 rfl rfl rfl rfl rfl ?_
  repeat' (first|(apply F3;first|(apply C8;refine A8 ?_)|(apply C9;refine D8 rfl rfl ?_)|(apply E5;refine F5 rfl rfl rfl ?_;first|(refine A05 (Ay2 _ _ _ _ _ _ true (by simp)) (by kernel_rfl) ?_)|(refine F7 rfl ?_))|(apply F4;refine F8 rfl rfl ?_;first|refine L8 sg rfl ?_ |refine L8 tg rfl ?_ |refine G6 srow ?_ |refine G6 scol ?_ |refine G6 trow ?_ |refine G6 tcol ?_ |refine L8 spen rfl ?_ |refine L8 tpen rfl ?_)|(apply D6;refine D9 rfl rfl ?_)|(apply I6;refine I9 rfl rfl ?_;apply Q9;refine Q8 rfl ?_)|(apply G7;refine G8 (E8 rfl rfl) rfl ?_)|(apply H6;refine F9 rfl rfl rfl (cG _) rfl rfl ?_)|(apply K9;refine O5 rfl rfl rfl rfl rfl rfl (fun _=>?_))|(apply I1;refine J9 rfl rfl rfl rfl ?_;first|(apply I7)|(apply E9<;>intro hq<;>(try (exfalso;omega)))))|(apply D7)|(apply H7)|(apply A7)|(apply D5))
  all_goals (skip)
  refine M3 (by (exact .inr rfl)) rfl N7 ?_
  rfl
end
section
set_option maxHeartbeats 2000000
def mixQ (R B:List Qd) (f:Nat):List Qd:=R.take f++B.drop f
theorem Af5 {R B:List Qd} {f:Nat} (hl:R.length=B.length) (hf:f≤R.length):(mixQ R B f).length=R.length:=by
  unfold mixQ
  rw[List.length_append,List.length_take,List.length_drop]
  omega
theorem Az3 {R B:List Qd} {f i:Nat} (hf:f≤R.length):(mixQ R B f).getD i qz=if i<f then R.getD i qz else B.getD i qz:=by
  unfold mixQ
  rw[List.getD_eq_getElem?_getD,List.getD_eq_getElem?_getD,List.getD_eq_getElem?_getD]
  by_cases h:i<f
  · rw[if_pos h,List.getElem?_append_left (by rw[List.length_take];omega),List.getElem?_take_of_lt h]
  · rw[if_neg h,List.getElem?_append_right (by rw[List.length_take];omega),List.length_take,Nat.min_eq_left hf,List.getElem?_drop,show f+(i-f)=i from by omega]
theorem AX7 {w j i:Nat} {C:List Qd} (hi:i<w):(rowQ w C j)[i]? =C[j * w+i]? :=by
  unfold rowQ
  rw[List.getElem?_take_of_lt hi,List.getElem?_drop]
theorem Ax4 {C:List Qd} {w h k j:Nat} {M:List Qd} (hC:C.length=w * h) (hk:k<h) (hM:M.length=w) (hj:j<h):rowQ w (rowC C w k M) j=if j=k then M else rowQ w C j:=by
  have hkw:k * w+w≤C.length:=by
    rw[hC,Nat.mul_comm w h,←Nat.succ_mul]
    exact Nat.mul_le_mul_right w hk
  have at':∀m,(rowC C w k M)[m]? =if m<k * w then C[m]? else if m<k * w+w then M[m-k * w]? else C[m]? :=fun m=>by
    unfold rowC
    have l1:(C.take (k * w)).length=k * w:=by rw[List.length_take];omega
    by_cases h1:m<k * w
    · rw[if_pos h1,List.append_assoc,List.getElem?_append_left (by rw[l1];exact h1),List.getElem?_take_of_lt h1]
    · rw[if_neg h1,List.append_assoc,List.getElem?_append_right (by rw[l1];omega),l1]
      by_cases h2:m<k * w+w
      · rw[if_pos h2,List.getElem?_append_left (by omega)]
      · rw[if_neg h2,List.getElem?_append_right (by omega),hM,List.getElem?_drop,show k * w+w+(m-k * w-w)=m from by omega]
  have hlen:(rowC C w k M).length=C.length:=by
    unfold rowC
    rw[List.length_append,List.length_append,List.length_take,List.length_drop,hM]
    omega
  have hl1:=j5 (w:=w) (h:=h) (k:=j) (C:=rowC C w k M) hj (by rw[hlen,hC])
  have hl2:=j5 (w:=w) (h:=h) (k:=j) (C:=C) hj hC
  apply List.ext_getElem?
  intro i
  by_cases hi:i<w
  · rw[AX7 hi,at']
    by_cases e:j=k
    · subst e
      rw[if_pos rfl,if_neg (by omega),if_pos (by omega),show j * w+i-j * w=i from by omega]
    · rw[if_neg e,AX7 hi]
      rcases Nat.lt_or_gt_of_ne e with h1|h1
      · have:(j+1) * w≤k * w:=Nat.mul_le_mul_right w h1
        rw[Nat.succ_mul] at this
        rw[if_pos (by omega)]
      · have:(k+1) * w≤j * w:=Nat.mul_le_mul_right w h1
        rw[Nat.succ_mul] at this
        rw[if_neg (by omega),if_neg (by omega)]
  · rw[List.getElem?_eq_none (by omega),List.getElem?_eq_none]
    split
    · omega
    · omega
theorem Bg7 {C D:List Qd} {w h:Nat} (hw:0<w) (hC:C.length=w * h) (hD:D.length=w * h) (hh:∀k,k<h→rowQ w C k=rowQ w D k):C=D:=by
  apply List.ext_getElem?
  intro m
  by_cases hm:m<w * h
  · have h1:m / w<h:=Nat.div_lt_of_lt_mul hm
    have h2:m % w<w:=Nat.mod_lt _ hw
    have e:m / w * w+m % w=m:=by rw[Nat.mul_comm];exact Nat.div_add_mod m w
    have:=congrArg (fun l:List Qd=>l[m % w]?) (hh _ h1)
    rwa [AX7 h2,AX7 h2,e] at this
  · rw[List.getElem?_eq_none (by omega),List.getElem?_eq_none (by omega)]
abbrev qb:Qd:=(32,0,0,0)
theorem Bs3:H5 32=1:=by decide+kernel
theorem Ay9:H5 0=0:=by decide+kernel
/-- Where the filled part ends, ahead of cell j. -/
def flD (R:List Qd) (w j:Nat):Nat:=if j<w∧(R.getD j qz).1=0 then j+1 else j
/-- A right row, whose first cells lie over blanks: no half of anything. -/
theorem CC1 {R:List Qd} {w f:Nat} (hR:R.length=w) (hok:∀i,i<w→loneB H5 R i=false) (hf:f≤w) (hb:f<w→(R.getD f qz).1≠0):∀i,i<w→loneB H5 (mixQ R (List.replicate w qb) f) i=false:=by
  intro i hi
  have hm:∀k,(mixQ R (List.replicate w qb) f).getD k qz=if k<f then R.getD k qz else (List.replicate w qb).getD k qz:=fun k=>Az3 (by omega)
  have hrep:∀k,k<w→(List.replicate w qb).getD k qz=qb:=fun k hk=>by
    rw[List.getD_eq_getElem?_getD,List.getElem?_replicate,if_pos hk];rfl
  have hl:(mixQ R (List.replicate w qb) f).length=w:=by rw[Af5 (by rw[List.length_replicate,hR]) (by omega),hR]
  have h:=hok i hi
  by_cases h1:i<f
  · unfold loneB at h ⊢
    rw[hm i,if_pos h1]
    by_cases hz:(R.getD i qz).1=0
    · rw[if_pos hz] at h ⊢
      have h:=of_decide_eq_false h
      rw[decide_eq_false]
      intro h2
      apply h
      rcases h2 with h2|h2|h2
      · exact .inl h2
      · rw[hm,if_pos (by omega)] at h2
        exact .inr (.inl h2)
      · refine .inr (.inr fun h3=>h2 ?_)
        obtain⟨a,b,c⟩:=h3
        refine⟨by omega,by rw[hm,if_pos h1];exact b,by rw[hm,hm,if_pos h1,if_pos (by omega)];exact c⟩
    · rw[if_neg hz] at h ⊢
      have h:=of_decide_eq_false h
      rw[decide_eq_false]
      rintro ⟨h2,h3⟩
      apply h
      refine⟨h2,fun h4=>h3 ?_⟩
      obtain⟨a,b,c⟩:=h4
      rw[Nat.add_sub_cancel] at c
      have h5:i+1<f:=by
        rcases Nat.lt_or_ge (i+1) f with h|h
        · exact h
        · have:i+1=f:=by omega
          exact absurd (this▸b) (hb (by omega))
      refine⟨by omega,by rw[hm,if_pos h5];exact b,by rw[Nat.add_sub_cancel,hm,hm,if_pos h5,if_pos h1];exact c⟩
  · unfold loneB
    rw[hm i,if_neg h1,hrep i hi,if_neg (by decide),decide_eq_false]
    rintro ⟨h2,-⟩
    rw[Bs3] at h2
    cases h2
theorem Aj8 {L:List Qd} {n i:Nat} {a:Qd} (hn:n<L.length):(L.set n a).getD i qz=if i=n then a else L.getD i qz:=by
  rw[List.getD_eq_getElem?_getD,List.getElem?_set,List.getD_eq_getElem?_getD]
  by_cases h:n=i
  · rw[if_pos h,if_pos h.symm,if_pos hn];rfl
  · rw[if_neg h,if_neg fun e=>h e.symm]
/-- A head put, and its tail. -/
theorem B01 {R:List Qd} {w j:Nat} (hR:R.length=w) (hok:∀i,i<w→loneB H5 R i=false) (hj:j<w) (hw:H5 (R.getD j qz).1=1∨H5 (R.getD j qz).1=2):j+(H5 (R.getD j qz).1).toNat≤w∧flD R w (j+1)=j+(H5 (R.getD j qz).1).toNat∧putQ H5 (mixQ R (List.replicate w qb) j) j (R.getD j qz).1 (R.getD j qz).2.1 (R.getD j qz).2.2.1 (R.getD j qz).2.2.2=mixQ R (List.replicate w qb) (j+(H5 (R.getD j qz).1).toNat):=by
  have h0:(R.getD j qz).1≠0:=fun h=>by rw[h,Ay9] at hw;omega
  have hrl:(List.replicate w qb).length=w:=List.length_replicate
  have hl:=hok j hj
  unfold loneB at hl
  rw[if_neg h0] at hl
  have hl:=of_decide_eq_false hl
  have hm:∀f k,f≤w→(mixQ R (List.replicate w qb) f).getD k qz=if k<f then R.getD k qz else (List.replicate w qb).getD k qz:=fun f k hf=>Az3 (by omega)
  have hml:∀f,f≤w→(mixQ R (List.replicate w qb) f).length=w:=fun f hf=>by rw[Af5 (by omega) (by omega),hR]
  rcases hw with hw|hw
  · rw[hw]
    have e1:j+(1:Int).toNat=j+1:=rfl
    rw[e1]
    refine⟨hj,?_,?_⟩
    · unfold flD
      rw[if_neg]
      rintro ⟨h1,h2⟩
      have h3:=hok (j+1) h1
      unfold loneB at h3
      rw[if_pos h2] at h3
      have h3:=of_decide_eq_false h3
      apply h3
      right;left
      rw[Nat.add_sub_cancel,hw]
      decide
    · unfold putQ
      rw[hw,if_neg (by decide)]
      refine Ae8 (by rw[List.length_set,hml j (by omega),hml (j+1) (by omega)]) fun i hi=>?_
      rw[Aj8 (by rw[hml j (by omega)];exact hj),hm j i (by omega),hm (j+1) i (by omega)]
      by_cases h1:i=j
      · subst h1
        rw[if_pos rfl,if_pos (by omega)]
      · rw[if_neg h1]
        by_cases h2:i<j
        · rw[if_pos h2,if_pos (by omega)]
        · rw[if_neg h2,if_neg (by omega)]
  · have ht:tailP R (j+1):=Classical.byContradiction fun h=>hl ⟨hw,h⟩
    obtain⟨t1,t2,t3⟩:=ht
    rw[Nat.add_sub_cancel] at t3
    rw[hw]
    have e1:j+(2:Int).toNat=j+2:=rfl
    rw[e1]
    refine⟨by omega,?_,?_⟩
    · unfold flD
      rw[if_pos ⟨by omega,t2⟩]
    · unfold putQ
      rw[hw,if_pos rfl]
      refine Ae8 (by rw[List.length_set,List.length_set,hml j (by omega),hml (j+2) (by omega)]) fun i hi=>?_
      rw[Aj8 (by rw[List.length_set,hml j (by omega)];omega),Aj8 (by rw[hml j (by omega)];exact hj),hm j i (by omega),hm (j+2) i (by omega)]
      by_cases h1:i=j+1
      · subst h1
        rw[if_pos rfl,if_pos (by omega)]
        rw[show R.getD (j+1) qz=((R.getD (j+1) qz).1,(R.getD (j+1) qz).2) from rfl,t2,t3]
      · rw[if_neg h1]
        by_cases h2:i=j
        · subst h2
          rw[if_pos rfl,if_pos (by omega)]
        · rw[if_neg h2]
          by_cases h3:i<j
          · rw[if_pos h3,if_pos (by omega)]
          · rw[if_neg h3,if_neg (by omega)]
end
section
set_option maxHeartbeats 2000000
/-- A screen while a row is drawn. -/
structure RwI (w h n:Nat) (C1 R:List Qd) (s:Scr) (f:Nat) (p:Tri):Prop where
  w':s.w=w
  h':s.h=h
  fre:Fre s
  row:s.row=n
  here:rowQ w s.C n=mixQ R (List.replicate w qb) f
  other:∀k,k<h→k≠n→rowQ w s.C k=rowQ w C1 k
  pos:f<w→s.col=f∧s.late=false
  pen:(s.pf,s.pr,s.pb)=p
/-- The acts that take a pen to another one do so. -/
theorem BC7 {s:Scr} (f:Fre s) {p q:Tri} (hp:(s.pf,s.pr,s.pb)=p) (hq:penB q.1 q.2.1 q.2.2=true):goodD s (aTo p.1 p.2.1 p.2.2 q.1 q.2.1 q.2.2)∧runD s (aTo p.1 p.2.1 p.2.2 q.1 q.2.1 q.2.2)=penD s q.1 q.2.1 q.2.2:=by
  subst hp
  dsimp only
  have hc:=BN0 f.pl.pen.1 hq
  obtain⟨h1,h2⟩:=AC8 (f:=s.pf) (r:=s.pr) (b:=s.pb) hq
  unfold aTo
  by_cases h0:chL s.pf s.pr s.pb q.1 q.2.1 q.2.2=[]
  · rw[if_pos h0]
    rw[h0,AZ0] at hc
    refine⟨trivial,?_⟩
    obtain⟨e1,e2⟩:=Prod.mk.inj hc
    obtain⟨e2,e3⟩:=Prod.mk.inj e2
    rw[←e1,←e2,←e3]
    rfl
  · rw[if_neg h0]
    refine⟨⟨.inr (.inr ⟨_,rfl,⟨by have:=List.length_pos_iff.2 h0;omega,by omega⟩,fun x hx=>by have:=h2 x hx;omega,by rw[hc];exact hq⟩),trivial⟩,?_⟩
    show stepD s (4,109,0,e0,chL s.pf s.pr s.pb q.1 q.2.1 q.2.2,e0)=_
    unfold stepD
    rw[if_neg (show ¬(4:Int)=1 by decide),if_neg (show ¬(109:Int)=72 by decide)]
    dsimp only
    rw[hc]
theorem Bn8 {w h n:Nat} {C1 R:List Qd} (hn:n<h) (hR:R.length=w) (hok:∀i,i<w→l7 R i=true) {s:Scr} {j:Nat} (hj:j<w) {p:Tri} (A:List Pa) (hs:RwI w h n C1 R s (flD R w j) p):∃A',(cellA (A,p) (R.getD j qz)).1=A++A'∧goodD s A'∧RwI w h n C1 R (runD s A') (flD R w (j+1)) (cellA (A,p) (R.getD j qz)).2:=by
  have hlo:∀i,i<w→loneB H5 R i=false:=fun i hi=>((AH2 R i).1 (hok i hi)).2
  have hce:∀i,i<w→celOk (R.getD i qz)=true:=fun i hi=>((AH2 R i).1 (hok i hi)).1
  unfold cellA
  by_cases h0:(R.getD j qz).1=0
  · rw[if_pos h0]
    have e1:flD R w j=j+1:=by unfold flD;rw[if_pos ⟨hj,h0⟩]
    have e2:flD R w (j+1)=j+1:=by
      unfold flD
      rw[if_neg]
      rintro ⟨h1,h2⟩
      have h3:=hlo (j+1) h1
      unfold loneB at h3
      rw[if_pos h2] at h3
      have h3:=of_decide_eq_false h3
      apply h3
      right;left
      rw[Nat.add_sub_cancel,h0,Ay9]
      decide
    refine⟨[],by simp,trivial,?_⟩
    rw[e2,←e1]
    exact hs
  · rw[if_neg h0]
    have e1:flD R w j=j:=by unfold flD;rw[if_neg fun h=>h0 h.2]
    rw[e1] at hs
    obtain⟨p1,p2⟩:=(AJ9 _).1 (hce j hj)
    have hwd:=Ao6 (p2.resolve_left h0)
    obtain⟨g1,g2,g3⟩:=B01 hR hlo hj hwd.2.2
    obtain⟨hcol,hlate⟩:=hs.pos hj
    obtain⟨a1,a2⟩:=BC7 hs.fre hs.pen (q:=(R.getD j qz).2) p1
    have hf1:Fre (penD s (R.getD j qz).2.1 (R.getD j qz).2.2.1 (R.getD j qz).2.2.2):=hs.fre.penD p1
    have hsw:=hs.w'
    have hsh:=hs.h'
    have hok1:okD (penD s (R.getD j qz).2.1 (R.getD j qz).2.2.1 (R.getD j qz).2.2.2) (1,(R.getD j qz).1,0,e0,[],e0):= .inl ⟨_,rfl,hlate,hwd.2.1,hwd.2.2,by show s.col+_≤(s.w:Int);rw[hcol,hsw];omega⟩
    refine⟨aTo p.1 p.2.1 p.2.2 (R.getD j qz).2.1 (R.getD j qz).2.2.1 (R.getD j qz).2.2.2++[(1,(R.getD j qz).1,0,e0,[],e0)],by rw[List.append_assoc],(AD8 _ _ _).2 ⟨a1,by rw[a2];exact⟨hok1,trivial⟩⟩,?_⟩
    rw[AJ7,a2]
    show RwI w h n C1 R (putD (penD s (R.getD j qz).2.1 (R.getD j qz).2.2.1 (R.getD j qz).2.2.2) (R.getD j qz).1) _ _
    have hlen:s.C.length=w * h:=by rw[hs.fre.pl.g.len,hsw,hsh]
    have hrow:(n:Int).toNat=n:=Int.toNat_natCast n
    have hC:(putD (penD s (R.getD j qz).2.1 (R.getD j qz).2.2.1 (R.getD j qz).2.2.2) (R.getD j qz).1).C=rowC s.C w n (mixQ R (List.replicate w qb) (flD R w (j+1))):=by
      show rowC s.C s.w s.row.toNat (mendQ H5 (putQ H5 (rowQ s.w s.C s.row.toNat) s.col.toNat (R.getD j qz).1 (R.getD j qz).2.1 (R.getD j qz).2.2.1 (R.getD j qz).2.2.2))=_
      rw[hsw,hs.row,hrow,hs.here,hcol,Int.toNat_natCast,g3,g2]
      rw[BC4]
      intro i hi
      rw[Af5 (by rw[List.length_replicate,hR]) (by omega),hR] at hi
      refine CC1 hR hlo (by omega) (fun hlt=>?_) i hi
      rw[←g2] at hlt ⊢
      unfold flD at hlt ⊢
      split
      · rename_i hc
        rw[if_pos hc] at hlt
        intro hz
        have h3:=hlo (j+2) hlt
        unfold loneB at h3
        rw[if_pos hz] at h3
        have h3:=of_decide_eq_false h3
        apply h3
        right;left
        rw[show j+2-1=j+1 from rfl,hc.2,Ay9]
        decide
      · rename_i hc
        rw[if_neg hc] at hlt
        exact fun hz=>hc ⟨hlt,hz⟩
    have hM:(mixQ R (List.replicate w qb) (flD R w (j+1))).length=w:=by rw[Af5 (by rw[List.length_replicate,hR]) (by rw[g2];omega),hR]
    refine⟨hsw,hsh,hf1.putD hwd.2.2,hs.row,?_,fun k hk hne=>?_,fun hlt=>?_,rfl⟩
    · rw[hC,Ax4 hlen hn hM hn,if_pos rfl]
    · rw[hC,Ax4 hlen hn hM hk,if_neg hne]
      exact hs.other k hk hne
    · have hlt':(j:Int)+H5 (R.getD j qz).1<w:=by rw[g2] at hlt;omega
      have h3:¬(s.col+H5 (R.getD j qz).1>(s.w:Int)-1):=by rw[hcol,hsw];omega
      refine⟨?_,?_⟩
      · show (if s.col+H5 (R.getD j qz).1>(s.w:Int)-1 then (s.w:Int)-1 else s.col+H5 (R.getD j qz).1)=_
        rw[if_neg h3,hcol,g2]
        omega
      · exact decide_eq_false h3
theorem Ar9 {w h n:Nat} {C1 R:List Qd} (hn:n<h) (hR:R.length=w) (hok:∀i,i<w→l7 R i=true):∀(m j:Nat),m+j=w→∀(s:Scr) (p:Tri) (A:List Pa),RwI w h n C1 R s (flD R w j) p→∃A',((R.drop j).foldl cellA (A,p)).1=A++A'∧goodD s A'∧RwI w h n C1 R (runD s A') w ((R.drop j).foldl cellA (A,p)).2
  | 0,j,hm,s,p,A,hs=>by
    obtain rfl:j=w:=by omega
    rw[List.drop_of_length_le (by omega)]
    refine⟨[],by simp,trivial,?_⟩
    have e:flD R j j=j:=by unfold flD;rw[if_neg (by omega)]
    rw[e] at hs
    exact hs
  | m+1,j,hm,s,p,A,hs=>by
    have hj:j<w:=by omega
    have e:R.drop j=R.getD j qz::R.drop (j+1):=by
      rw[List.drop_eq_getElem_cons (by omega),List.getD_eq_getElem?_getD,List.getElem?_eq_getElem (by omega)]
      rfl
    obtain⟨A1,h1,h2,h3⟩:=Bn8 hn hR hok hj A hs
    rw[e,List.foldl_cons]
    obtain⟨A2,g1,g2,g3⟩:=Ar9 hn hR hok m (j+1) (by omega) (runD s A1) _ (A++A1) h3
    rw[show cellA (A,p) (R.getD j qz)=(A++A1,(cellA (A,p) (R.getD j qz)).2) from by rw[←h1]]
    refine⟨A1++A2,by rw[g1,List.append_assoc],(AD8 _ _ _).2 ⟨h2,g2⟩,?_⟩
    rw[AJ7]
    exact g3
/-- A screen whose first rows are drawn. -/
structure RsI (w h:Nat) (C:List Qd) (s:Scr) (n:Nat) (p:Tri):Prop where
  w':s.w=w
  h':s.h=h
  fre:Fre s
  rows:∀k,k<h→rowQ w s.C k=if k<n then rowQ w C k else List.replicate w qb
  pen:(s.pf,s.pr,s.pb)=p
theorem Ak7 {w h k:Nat} (hk:k<h):rowQ w (List.replicate (w * h) qb) k=List.replicate w qb:=by
  unfold rowQ
  rw[List.drop_replicate,List.take_replicate]
  have hr:=AN5 (w:=w) (h:=h) (k:=k) (n:=w * h) hk rfl
  congr 1
  omega
theorem B28 {w h:Nat} {C:List Qd} (g:GrOk w h C) {n:Nat} (hn:n<h) {s:Scr} {p:Tri} (A:List Pa) (hs:RsI w h C s n p):∃A',(rowA (List.replicate (w * h) qb) C w (A,p) n).1=A++A'∧goodD s A'∧RsI w h C (runD s A') (n+1) (rowA (List.replicate (w * h) qb) C w (A,p) n).2:=by
  unfold rowA
  rw[Ak7 hn]
  by_cases e:List.replicate w qb=rowQ w C n
  · rw[if_pos e]
    refine⟨[],by simp,trivial,hs.w',hs.h',hs.fre,fun k hk=>?_,hs.pen⟩
    show rowQ w s.C k=_
    rw[hs.rows k hk]
    by_cases h1:k<n
    · rw[if_pos h1,if_pos (by omega)]
    · rw[if_neg h1]
      by_cases h2:k=n
      · subst h2
        rw[if_pos (by omega),e]
      · rw[if_neg (by omega)]
  · rw[if_neg e]
    have hz:=g.size
    have hsw:=hs.w'
    have hsh:=hs.h'
    have hm:stepD s (aH ((n:Int)+1) 1)=moveD s n 0:=by
      unfold stepD
      rw[if_neg (show ¬(4:Int)=1 by decide),if_pos rfl]
      show moveD s ((n:Int)+1-1) (1-1)=_
      rw[show (n:Int)+1-1=n from by omega]
      rfl
    have hmw:l6 (n:Int) 0 ((s.h:Int)-1)=n:=by unfold l6;rw[hsh];omega
    have hmc:l6 0 0 ((s.w:Int)-1)=0:=by unfold l6;rw[hsw];omega
    have hR:=j5 (w:=w) (h:=h) (k:=n) (C:=C) hn g.len
    have hok:=g.cell n hn
    have h0:flD (rowQ w C n) w 0=0:=by
      unfold flD
      rw[if_neg]
      rintro ⟨h1,h2⟩
      have h3:=((AH2 _ _).1 (hok 0 h1)).2
      unfold loneB at h3
      rw[if_pos h2] at h3
      exact of_decide_eq_false h3 (.inl rfl)
    have hi:RwI w h n s.C (rowQ w C n) (moveD s n 0) (flD (rowQ w C n) w 0) p:=by
      rw[h0]
      refine⟨hsw,hsh,hs.fre.moveD _ _,hmw,?_,fun k _ _=>rfl,fun _=>⟨hmc,rfl⟩,hs.pen⟩
      show rowQ w s.C n=_
      rw[hs.rows n hn,if_neg (by omega)]
      unfold mixQ
      simp
    obtain⟨A',h1,h2,h3⟩:=Ar9 hn hR hok w 0 rfl (moveD s n 0) p (A++[aH ((n:Int)+1) 1]) hi
    rw[List.drop_zero] at h1 h3
    have hoH:okD s (aH ((n:Int)+1) 1):= .inr (.inl ⟨_,_,rfl,by rw[hsh];omega,by rw[hsw];omega⟩)
    refine⟨aH ((n:Int)+1) 1::A',by rw[h1,List.append_assoc];rfl,⟨hoH,by rw[hm];exact h2⟩,?_⟩
    show RsI w h C (runD (stepD s (aH ((n:Int)+1) 1)) A') _ _
    rw[hm]
    refine⟨h3.w',h3.h',h3.fre,fun k hk=>?_,h3.pen⟩
    by_cases hk2:k=n
    · subst hk2
      rw[h3.here,if_pos (by omega)]
      unfold mixQ
      rw[List.take_of_length_le (by omega),List.drop_of_length_le (by rw[List.length_replicate];omega),List.append_nil]
    · rw[h3.other k hk hk2,hs.rows k hk]
      by_cases h4:k<n
      · rw[if_pos h4,if_pos (by omega)]
      · rw[if_neg h4,if_neg (by omega)]
theorem A16 {w h:Nat} {C:List Qd} (g:GrOk w h C) {s:Scr} {p:Tri} (hs:RsI w h C s 0 p):∀n,n≤h→goodD s (rowsA (List.replicate (w * h) qb) C w p n).1∧RsI w h C (runD s (rowsA (List.replicate (w * h) qb) C w p n).1) n (rowsA (List.replicate (w * h) qb) C w p n).2
  | 0,_=>⟨trivial,hs⟩
  | n+1,hn=>by
    obtain⟨h1,h2⟩:=A16 g hs n (by omega)
    have e:rowsA (List.replicate (w * h) qb) C w p (n+1)=rowA (List.replicate (w * h) qb) C w (rowsA (List.replicate (w * h) qb) C w p n) n:=by
      unfold rowsA
      rw[List.range_succ,List.foldl_append,List.foldl_cons,List.foldl_nil]
    rw[e]
    generalize rowsA (List.replicate (w * h) qb) C w p n=st at *
    obtain⟨A,q⟩:=st
    obtain⟨A',g1,g2,g3⟩:=B28 g (by omega) A h2
    rw[g1]
    refine⟨(AD8 _ _ _).2 ⟨h1,g2⟩,?_⟩
    rw[AJ7]
    exact g3
/-- The picture is drawn. -/
theorem Bl3 {w h:Nat} {C:List Qd} (g:GrOk w h C) {p:Tri} (hp:penB p.1 p.2.1 p.2.2=true) {r c:Int} (hr:0≤r∧r<h) (hc:0≤c∧c<w):goodD (newS w h) (drawA (List.replicate (w * h) qb) C w h (0,0,0) p r c)∧(runD (newS w h) (drawA (List.replicate (w * h) qb) C w h (0,0,0) p r c)).C=C∧(runD (newS w h) (drawA (List.replicate (w * h) qb) C w h (0,0,0) p r c)).row=r∧(runD (newS w h) (drawA (List.replicate (w * h) qb) C w h (0,0,0) p r c)).col=c∧((runD (newS w h) (drawA (List.replicate (w * h) qb) C w h (0,0,0) p r c)).pf,(runD (newS w h) (drawA (List.replicate (w * h) qb) C w h (0,0,0) p r c)).pr,(runD (newS w h) (drawA (List.replicate (w * h) qb) C w h (0,0,0) p r c)).pb)=p:=by
  have hz:=g.size
  have h0:RsI w h C (newS w h) 0 (0,0,0):=⟨rfl,rfl,Fre.new hz,fun k hk=>by rw[if_neg (by omega)];exact Ak7 hk,rfl⟩
  obtain⟨h1,h2⟩:=A16 g h0 h (Nat.le_refl _)
  unfold drawA
  generalize rowsA (List.replicate (w * h) qb) C w (0,0,0) h=st at *
  obtain⟨A,q⟩:=st
  dsimp only at h1 h2 ⊢
  generalize newS w h=s0 at *
  have hC:(runD s0 A).C=C:=Bg7 (by omega) (by rw[h2.fre.pl.g.len,h2.w',h2.h']) g.len fun k hk=>by rw[h2.rows k hk,if_pos hk]
  obtain⟨a1,a2⟩:=BC7 h2.fre h2.pen hp
  have hsw:=h2.w'
  have hsh:=h2.h'
  have hoH:okD (penD (runD s0 A) p.1 p.2.1 p.2.2) (aH (r+1) (c+1)):= .inr (.inl ⟨_,_,rfl,by show 1≤r+1∧r+1≤((runD s0 A).h:Int);rw[hsh];omega,by show 1≤c+1∧c+1≤((runD s0 A).w:Int);rw[hsw];omega⟩)
  have hm:stepD (penD (runD s0 A) p.1 p.2.1 p.2.2) (aH (r+1) (c+1))=moveD (penD (runD s0 A) p.1 p.2.1 p.2.2) r c:=by
    unfold stepD
    rw[if_neg (show ¬(4:Int)=1 by decide),if_pos rfl]
    show moveD _ (r+1-1) (c+1-1)=_
    rw[show r+1-1=r from by omega,show c+1-1=c from by omega]
  have hall:runD s0 (A++aTo q.1 q.2.1 q.2.2 p.1 p.2.1 p.2.2++[aH (r+1) (c+1)])=moveD (penD (runD s0 A) p.1 p.2.1 p.2.2) r c:=by
    rw[AJ7,AJ7,a2,←hm]
    rfl
  rw[hall]
  refine⟨(AD8 _ _ _).2 ⟨(AD8 _ _ _).2 ⟨h1,a1⟩,by rw[AJ7,a2];exact⟨hoH,trivial⟩⟩,hC,?_,?_,rfl⟩
  · show l6 r 0 (((runD s0 A).h:Int)-1)=r
    unfold l6
    rw[hsh]
    omega
  · show l6 c 0 (((runD s0 A).w:Int)-1)=c
    unfold l6
    rw[hsw]
    omega
end
section
set_option maxHeartbeats 2000000
attribute [local irreducible] SW SL SQ AtQ SV SC BB LD PK Yields SO SOT SOA SY
theorem BX9 (G:Ctx) (H:List Ent) (p:Int):SV Tryz.prog G 62 [.int .i64 p] H (.bool (decide (1≤p∧p≤4))):=by
  refine M5 Tryz.func62 rfl rfl rfl rfl rfl ?_
  repeat' (first|(apply F3;first|(apply C8;refine A8 ?_)|(apply C9;refine D8 rfl rfl ?_)|(apply E5;refine F5 rfl rfl rfl ?_;refine F7 rfl ?_)|(apply D6;refine D9 rfl rfl ?_)|(apply I6;refine I9 rfl rfl ?_;first|(apply Q9;refine Q8 rfl ?_)|(apply O1;refine O3 rfl ?_))|(apply I1;refine J9 rfl rfl rfl rfl ?_;first|(apply I7)|(apply I5)|(apply E9<;>intro hq<;>(try (exfalso;omega)))))|(apply D7)|(apply H7)|(apply A7)|(apply D5))
  all_goals
    refine M3 (by (exact .inr rfl)) rfl N7 ?_
    simp [resV]
  all_goals omega
def pastB (X:List (Rx Qd)):Bool:=decide (X.length≤40)&&X.all fun x=>gridE (x.2.2.length:Int) 1 x.2.2==0
theorem Bh1 (G:Ctx) (H:List Ent) (X:List (Rx Qd)) {vs:List Value} (pa:Option Addr) (n pc:Nat) [h1:RdC G H pa vs] (hv:vs=X.map rxV) (hr:RdX qds G H X) (hn:n=X.length) (hm:n≤9223372036854775807):SV Tryz.prog G 63 [.slice pa n pc] H (.bool (pastB X)):=by
  have hlx:vs.length=n * 1:=by rw[hv,List.length_map,hn,Nat.mul_one]
  have hel:∀(k:Nat) x,X[k]? =some x→take? (vs.drop ((k:Int).toNat * 1)) 1=some [rxV x]:=fun k x hx=>by
    subst hv
    rw[Int.toNat_natCast,Nat.mul_one]
    have hlt:=(List.getElem?_eq_some_iff.1 hx).1
    refine AK2 rfl ?_
    rw[List.drop_eq_getElem_cons (by rw[List.length_map];exact hlt),List.take_succ_cons,List.take_zero,List.getElem_map,(List.getElem?_eq_some_iff.1 hx).2]
  have Hn:=Lib.hid hn
  clear hn
  refine M5 Tryz.func63 rfl rfl rfl rfl rfl ?_
  repeat' (first|(apply F3;first|(apply C8;refine A8 ?_)|(apply C9;refine D8 rfl rfl ?_)|(apply D6;refine D9 rfl rfl ?_)|(apply J5;refine s_call (Q5 rfl rfl) rfl ?_))|(apply D7)|(apply F6)|((fail_if_success (refine K3 (id:=2) ?_));apply A7)|(apply D5))
  refine R9 (α:=Nat) (fun k=>[(0,.slice pa n pc),(5,.slice pa n pc),(6,.int .i64 n),(7,.int .i64 k)]) (fun _=>H)
    (fun k=>k≤n∧∀j,j<k→∀x,X[j]? =some x→gridE (x.2.2.length:Int) 1 x.2.2=0) (fun k=>n-k) 0 ⟨Nat.zero_le _,fun j hj=>absurd hj (Nat.not_lt_zero j)⟩ (by repeat (first|exact Le.nil _|refine Le.cons (by (rfl)) ?_)) I8 ?_
  rintro k ⟨hk,hall⟩
  have Ha:=Lib.hid hall
  clear hall
  by_cases hlt:(k:Int)<n
  · obtain⟨x,hx⟩:=AA3 (X:=X) (k:=k) (by rw[←Hn.out];omega)
    have e1:=hel k x hx
    have hsl:=hr.at hx
    refine AW8 fun w0 hw0=>?_
    have hcap:=(hsl w0 hw0).1
    have hmx:=(hsl w0 hw0).2.1
    clear hw0 w0
    have Hx:=Lib.hid hx
    obtain⟨a,c,R⟩:=x
    dsimp only at hcap hmx
    haveI:=hsl.rd
    dsimp only at this
    have cG:=fun (H:List Ent) [RdC G H a (qds R)]=>AG5 G H R (R.length:Int) 1 a R.length c rfl rfl hmx hcap
    have e1:take? (vs.drop ((k:Int).toNat * 1)) 1=some [.slice a R.length c]:=e1
    generalize hge:gridE (R.length:Int) 1 R=e at *
    clear hel hv hr hsl hx
    repeat' (first|(apply F3;first|(apply C8;refine A8 ?_)|(apply C9;refine D8 rfl rfl ?_)|(apply E5;refine F5 rfl rfl rfl ?_;first|(apply M0;refine L9 ⟨by omega,by omega⟩ ?_)|refine F7 rfl ?_)|(apply F4;first|(refine F8 rfl rfl ?_;refine G6 rfl ?_)|(refine F8 rfl rfl ?_;refine Y5 e1 rfl ?_))|(apply D6;refine D9 rfl rfl ?_)|(apply G7;refine G8 (E8 rfl rfl) rfl ?_)|(apply P5;refine R7 (O6 rfl rfl rfl) rfl ?_)|(apply M4;refine N9 (K6 rfl rfl rfl hlx (by omega) (by omega)) rfl ?_)|(apply H6;refine F9 rfl rfl rfl (cG _) rfl rfl ?_)|(apply J5;refine s_call (Q5 rfl rfl) rfl ?_)|(apply H9;refine M6 rfl rfl rfl rfl rfl rfl rfl rfl ?_)|(apply L6;refine O0 rfl rfl rfl rfl (fun _=>?_)))|(apply D7)|(apply G9)|(apply H7)|(apply F6)|(apply A7)|(refine G5 rfl ?_;first|(apply E9<;>intro hq<;>(try (exfalso;omega)))|(apply X6<;>intro hq<;>(try (exfalso;omega))))|(apply D5)|(apply J4)|(apply J2)|(apply U1))
    all_goals (skip)
    · have hq:e≠0:=by (assumption)
      have hb:pastB X=false:=by
        unfold pastB
        rw[Bool.and_eq_false_iff]
        refine .inr ?_
        rw[List.all_eq_false]
        refine⟨_,List.mem_of_getElem? Hx.out,?_⟩
        dsimp only
        rw[hge]
        simpa using hq
      rw[hb]
      refine M3 (by (exact .inr rfl)) rfl N7 ?_
      rfl
    · have he0:e=0:=by (assumption)
      refine J6 (k+1) ⟨⟨by omega,fun j hj y hy=>?_⟩,by omega⟩ (by repeat (first|exact Le.nil _|refine Le.cons (by (rfl)) ?_)) I8
      rcases Nat.lt_succ_iff_lt_or_eq.1 hj with h|h
      · exact Ha.out j h y hy
      · subst h
        rw[Hx.out] at hy
        cases hy
        dsimp only
        rw[hge]
        exact he0
  · obtain rfl:k=n:=by omega
    have hb:pastB X=decide ((k:Int)≤40):=by
      unfold pastB
      rw[show (X.all fun x=>gridE (x.2.2.length:Int) 1 x.2.2==0)=true from by
        rw[List.all_eq_true]
        intro x hx
        obtain⟨j,hj⟩:=List.getElem?_of_mem hx
        have hjl:=(List.getElem?_eq_some_iff.1 hj).1
        rw[beq_iff_eq]
        exact Ha.out j (by rw[Hn.out];exact hjl) x hj]
      rw[Bool.and_true,Hn.out]
      exact decide_eq_decide.2 (by omega)
    rw[hb]
    repeat' (first|(apply F3;first|(apply C8;refine A8 ?_)|(apply C9;refine D8 rfl rfl ?_)|(apply E5;refine F5 rfl rfl rfl ?_;refine F7 rfl ?_)|(apply D6;refine D9 rfl rfl ?_)|(apply J5;refine s_call (Q5 rfl rfl) rfl ?_))|(apply D7)|(apply H7)|(apply N8)|(apply A7)|(refine G5 rfl ?_;apply E9<;>intro hq<;>(try (exfalso;omega)))|(apply D5)|(apply J7)|(apply J8))
    all_goals (skip)
    refine M3 (by (exact .inr rfl)) rfl N7 ?_
    rfl
end
section
set_option maxHeartbeats 8000000
/-- Any screen. -/
structure Toc where
  w:Int
  h:Int
  row:Int
  col:Int
  late:Bool
  top:Int
  bot:Int
  pf:Int
  pr:Int
  pb:Int
  modes:Int
  s0:Int
  s1:Int
  s2:Int
  s3:Int
  p0:Int
  p1:Int
  sh:Int
  sr:Int
  sc:Int
  spf:Int
  spr:Int
  spb:Int
  so:Bool
  sp0:Int
  sp1:Int
  ssh:Int
  w2:Int
  h2:Int
  ti:ByteArray
def tocC (t:Toc) (ga:Option Addr) (gn gc:Nat) (oa:Option Addr) (on oc:Nat) (pa:Option Addr) (pn pc:Nat):List Value:=
  (.int .i64 t.w:: .int .i64 t.h:: .slice ga gn gc:: .int .i64 t.row:: .int .i64 t.col:: .bool t.late:: .int .i64 t.top:: .int .i64 t.bot:: .int .i64 t.pf:: .int .i64 t.pr:: .int .i64 t.pb:: .int .i64 t.modes::
   .int .u64 t.s0:: .int .u64 t.s1:: .int .u64 t.s2:: .int .u64 t.s3:: .int .i64 t.p0:: .int .i64 t.p1:: .int .i64 t.sh:: .int .i64 t.sr:: .int .i64 t.sc:: .int .i64 t.spf:: .int .i64 t.spr:: .int .i64 t.spb:: .bool t.so:: .int .i64 t.sp0:: .int .i64 t.sp1:: .int .i64 t.ssh::
   .int .i64 t.w2:: .int .i64 t.h2:: .slice oa on oc:: .string t.ti:: .slice pa pn pc::[])
def tk2 (t:Toc) (ge gd _pe _ps:Int):Prop:=ge=0∧gd=0∧t.w=t.w2∧t.h=t.h2
def tk3 (t:Toc) (ge gd _pe _ps:Int):Prop:=tk2 t ge gd _pe _ps∧(0≤t.row∧t.row≤t.h-1)∧(0≤t.col∧t.col≤t.w-1)∧(t.late=false∨t.col=t.w-1)
def tk4 (t:Toc) (ge gd _pe _ps:Int):Prop:=tk3 t ge gd _pe _ps∧(0≤t.top∧t.top≤IntKind.i64.wrap (t.bot-1))∧t.bot≤t.h
def tk5 (t:Toc) (ge gd _pe _ps:Int):Prop:=tk4 t ge gd _pe _ps∧_pe=0∧_ps=0∧(0≤t.modes∧t.modes≤2047)
theorem BJ1 {t:Toc} {ge gd pe ps:Int} (h:tk2 t ge gd pe ps):tk2 t ge gd pe ps:=h
theorem BI6 {t:Toc} {ge gd pe ps:Int} (h:tk3 t ge gd pe ps):tk2 t ge gd pe ps:=BJ1 h.1
theorem BL3 {t:Toc} {ge gd pe ps:Int} (h:tk4 t ge gd pe ps):tk2 t ge gd pe ps:=BI6 h.1
theorem CI0 {t:Toc} {ge gd pe ps:Int} (h:tk5 t ge gd pe ps):tk2 t ge gd pe ps:=BL3 h.1
def tkl (i:Nat) (t:Toc) (ge gd _pe _ps:Int):Prop:=tk5 t ge gd _pe _ps∧(i=0∨((1≤t.p0∧t.p0≤4)∧(1≤t.sp0∧t.sp0≤4)))∧(i≤1∨((1≤t.p1∧t.p1≤4)∧(1≤t.sp1∧t.sp1≤4)))
def Ah6 (t:Toc) (ge gd _pe _ps:Int):Prop:=tkl 2 t ge gd _pe _ps∧(0≤t.sh∧t.sh≤1)∧(0≤t.ssh∧t.ssh≤1)
def Aj7 (t:Toc) (ge gd _pe _ps:Int):Prop:=Ah6 t ge gd _pe _ps∧(0≤t.sr∧t.sr≤59)∧(0≤t.sc∧t.sc≤159)
def Aa1 (bX:Bool) (t:Toc) (ge gd _pe _ps:Int):Prop:=Aj7 t ge gd _pe _ps∧t.ti.size≤256∧bX=true
theorem BL2 {i:Nat} {t:Toc} {ge gd pe ps:Int} (h:tkl i t ge gd pe ps):tk2 t ge gd pe ps:=CI0 h.1
theorem A04 {t:Toc} {ge gd pe ps:Int} (h:Ah6 t ge gd pe ps):tk2 t ge gd pe ps:=BL2 h.1
theorem Az8 {t:Toc} {ge gd pe ps:Int} (h:Aj7 t ge gd pe ps):tk2 t ge gd pe ps:=A04 h.1
attribute [local irreducible] SW SL SQ AtQ SV SC BB LD PK Yields SO SOT SOA SY
theorem Ah7 (G:Ctx) (H:List Ent) (t:Toc) (C D:List Qd) (X:List (Rx Qd)) (ga:Option Addr) (gn gc:Nat) (oa:Option Addr) (on oc:Nat) (pa:Option Addr) (pn pc:Nat) [h1:RdC G H ga (qds C)] [h2:RdC G H oa (qds D)] [h3:RdC G H pa (X.map rxV)] (hr:RdX qds G H X) (hgn:gn=C.length) (hgc:gn≤gc) (hon:on=D.length) (hoc:on≤oc) (hpn:pn=X.length) (hb1:gn≤9223372036854775807) (hb2:on≤9223372036854775807) (hb3:pn≤9223372036854775807) (e:Int) (he:(e=0∧Aa1 (pastB X) t (gridE t.w t.h C) (gridE t.w2 t.h2 D) (if penB t.pf t.pr t.pb=true then 0 else 4) (if penB t.spf t.spr t.spb=true then 0 else 4))∨(e=4∧¬Aa1 (pastB X) t (gridE t.w t.h C) (gridE t.w2 t.h2 D) (if penB t.pf t.pr t.pb=true then 0 else 4) (if penB t.spf t.spr t.spb=true then 0 else 4))):
    SV Tryz.prog G 36 [.agg (tocC t ga gn gc oa on oc pa pn pc).toArray] H (.int .i64 e):=by
  have cC:=fun (H:List Ent) [RdC G H ga (qds C)]=>AG5 G H C t.w t.h ga gn gc rfl hgn hb1 hgc
  have cD:=fun (H:List Ent) [RdC G H oa (qds D)]=>AG5 G H D t.w2 t.h2 oa on oc rfl hon hb2 hoc
  have hge:gridE t.w t.h C≠0∨(1≤t.w∧t.w≤160∧1≤t.h∧t.h≤60):=by
    by_cases h:gridE t.w t.h C=0
    · exact .inr (Ag2 h).1
    · exact .inl h
  generalize gridE t.w t.h C=ge at *
  generalize gridE t.w2 t.h2 D=gd at *
  have cP:=fun (H:List Ent)=>AC3 G H t.pf t.pr t.pb
  generalize (if penB t.pf t.pr t.pb=true then (0:Int) else 4)=pe at *
  have cP2:=fun (H:List Ent)=>AC3 G H t.spf t.spr t.spb
  generalize (if penB t.spf t.spr t.spb=true then (0:Int) else 4)=ps at *
  have cK:=fun (H:List Ent) (p:Int)=>BX9 G H p
  have cW:=fun (H:List Ent) (n lo hi:Int)=>Am3 G H n lo hi
  have cX:=fun (H:List Ent) (_:RdC G H pa (X.map rxV)) (hr:RdX qds G H X)=>Bh1 G H X pa pn pc rfl hr hpn hb3
  generalize pastB X=bX at *
  unfold tocC
  refine M5 Tryz.func36 rfl rfl rfl rfl rfl ?_
  repeat' (first|(apply F3;first|(apply C8;refine A8 ?_)|(apply D6;refine D9 rfl rfl ?_)|(apply K9;refine O5 rfl rfl rfl rfl rfl rfl (fun _=>?_)))|(apply D7)|((fail_if_success (refine K3 (id:=1) ?_));apply A7)|(apply D5))
  rename_i b
  refine j4 (α:=Nat×Nat) (fun g=>[(1,.pointer (some ⟨b,0,none⟩)),(2,.int .i64 0),(3,.pointer (some ⟨g.1,0,none⟩)),(4,.pointer (some ⟨g.2,0,none⟩))])
    (fun g=> .blk g.1 29 [.int .i64 t.w,.int .i64 t.h,.slice ga gn gc]:: .blk g.2 29 [.int .i64 t.w2,.int .i64 t.h2,.slice oa on oc]:: .blk b 41 (tocC t ga gn gc oa on oc pa pn pc)::H) (fun _=>True) ?_ ?_
  · repeat' (first|(apply F3;first|(apply C8;refine A8 ?_)|(apply H9;refine M6 rfl rfl rfl rfl rfl rfl rfl rfl ?_)|(apply L6;refine O0 rfl rfl rfl rfl (fun _=>?_)))|(apply U4;refine R5 (k:=0) I8 ?_)|(apply V6;first|(refine O9 rfl ?_)|(refine P8 rfl rfl rfl rfl (by kernel_rfl) (by decide+kernel) (by decide+kernel) ?_;first|(apply U9;refine U6 rfl ?_;refine L8 rfl rfl ?_)|(apply Q0;refine I4 (E8 rfl rfl) ?_))|(refine P9 rfl ?_)|(refine R4 (by decide+kernel) ?_)|(refine S9 (by kernel_rfl) ?_))|(apply X4;first|(refine T9 rfl)|(refine U7 (by decide+kernel) ?_)|(refine U0 rfl ?_ ?_))|(refine K3 (id:=1) ?_;refine V3 _ (fun _ hw=>hw) ?_))
    all_goals
      rename_i b1 b2
      first
        | (refine J6 (b1,b2) trivial ?_ ?_
           focus (repeat (first|exact Le.nil _|refine Le.cons rfl ?_))
           exact I8)
        | (refine J6 (b2,b1) trivial ?_ ?_
           focus (repeat (first|exact Le.nil _|refine Le.cons rfl ?_))
           exact I8)
  rintro ⟨b3,b4⟩-
  dsimp only
  repeat' (apply D7)
  refine j4 (α:=Bool) (fun f=>[(1,.pointer (some ⟨b,0,none⟩)),(2,.int .i64 0),(3,.pointer (some ⟨b3,0,none⟩)),(4,.pointer (some ⟨b4,0,none⟩)),(5,.bool f)]) (fun _=> .blk b3 29 [.int .i64 t.w,.int .i64 t.h,.slice ga gn gc]:: .blk b4 29 [.int .i64 t.w2,.int .i64 t.h2,.slice oa on oc]:: .blk b 41 (tocC t ga gn gc oa on oc pa pn pc)::H) (fun f=>f=true↔tk2 t ge gd pe ps) ?_ ?_
  · unfold tocC
    repeat' (first|(apply F3;first|(apply C8;refine A8 ?_)|(apply C9;refine D8 rfl rfl ?_)|(apply E5;refine F5 rfl rfl rfl ?_;refine F7 rfl ?_)|(apply F4;refine F8 rfl rfl ?_;first|refine G6 rfl ?_ |refine K5 rfl ?_)|(apply D6;refine D9 rfl rfl ?_)|(apply I6;refine I9 rfl rfl ?_;first|(apply Q9;refine Q8 rfl ?_)|(apply O1;refine O3 rfl ?_))|(apply G7;refine G8 (E8 rfl rfl) rfl ?_)|(apply H6;first|refine F9 rfl rfl rfl (cC _) rfl rfl ?_ |refine F9 rfl rfl rfl (cD _) rfl rfl ?_)|(apply I1;refine J9 rfl rfl rfl rfl ?_;first|(apply I7)|(apply I5)|(apply E9<;>intro hq<;>(try (exfalso;omega)))))|(apply A7))
    all_goals (skip)
    all_goals
      apply J6
      case hs=>repeat (first|exact Le.nil _|refine Le.cons rfl ?_)
      case hH=>exact I8
      case hI=>
        unfold tk2
        try simp only[dbeq,decide_eq_true_eq,beq_iff_eq,Bool.false_eq_true,false_iff,true_iff,Bool.not_eq_true',Bool.not_true,Bool.not_false] at *
        omega
  intro f hf
  repeat' (apply D7)
  refine j4 (α:=Bool) (fun f=>[(1,.pointer (some ⟨b,0,none⟩)),(2,.int .i64 0),(3,.pointer (some ⟨b3,0,none⟩)),(4,.pointer (some ⟨b4,0,none⟩)),(5,.bool f)]) (fun _=> .blk b3 29 [.int .i64 t.w,.int .i64 t.h,.slice ga gn gc]:: .blk b4 29 [.int .i64 t.w2,.int .i64 t.h2,.slice oa on oc]:: .blk b 41 (tocC t ga gn gc oa on oc pa pn pc)::H) (fun f=>f=true↔tk3 t ge gd pe ps) ?_ ?_
  · have hz2:tk2 t ge gd pe ps→ge=0∧1≤t.w∧t.w≤160∧1≤t.h∧t.h≤60:=fun h=>⟨(BJ1 h).1,by have:=(BJ1 h).1;omega⟩
    generalize hPP:tk2 t ge gd pe ps=Q at *
    unfold tocC
    cases hla:t.late
    all_goals
      cases f
      · have hQ:¬Q:=fun h=>nomatch hf.2 h
        clear hz2
        repeat' (first|(apply F3;first|(apply C8;refine A8 ?_)|(apply C9;refine D8 rfl rfl ?_)|(apply D6;refine D9 rfl rfl ?_)|(apply I6;refine I9 rfl rfl ?_;apply O1;refine O3 rfl ?_)|(apply I1;first|(refine J9 rfl rfl rfl rfl ?_;apply I5)|refine o5 rfl rfl rfl rfl rfl rfl ?_))|(apply A7))
        all_goals (skip)
        all_goals
          apply J6
          case hs=>repeat (first|exact Le.nil _|refine Le.cons rfl ?_)
          case hH=>exact I8
          case hI=>
            unfold tk3
            rw[hPP]
            simp [hQ]
      · have hQ:Q:=hf.1 rfl
        have hz:=hz2 hQ
        clear hz2
        repeat' (first|(apply F3;first|(apply C8;refine A8 ?_)|(apply C9;refine D8 rfl rfl ?_)|(apply E5;refine F5 rfl rfl rfl ?_;first|(apply y9;refine AA2 ⟨by omega,by omega⟩ ?_)|refine F7 rfl ?_)|(apply F4;refine F8 rfl rfl ?_;refine G6 rfl ?_)|(apply D6;refine D9 rfl rfl ?_)|(apply I6;refine I9 rfl rfl ?_;first|(apply Q9;refine Q8 rfl ?_)|(apply O1;refine O3 rfl ?_))|(apply G7;refine G8 (E8 rfl rfl) rfl ?_)|(apply Y0;refine Z8 (Z7 rfl rfl rfl) rfl ?_)|(apply H6;refine F9 rfl rfl rfl (cW _ _ _ _) rfl rfl ?_)|(apply I1;first|(refine J9 rfl rfl rfl rfl ?_;first|(apply I7)|(apply I5)|(apply X9)|(apply E9<;>intro hq<;>(try (exfalso;omega))))|refine o5 rfl rfl rfl rfl rfl rfl ?_))|(apply A7))
        all_goals (skip)
        all_goals
          apply J6
          case hs=>repeat (first|exact Le.nil _|refine Le.cons rfl ?_)
          case hH=>exact I8
          case hI=>
            unfold tk3
            rw[hPP]
            simp only[hQ,true_and]
            try simp only[hla,eq_self,reduceCtorEq,true_or,false_or,and_true,dbeq,decide_eq_true_eq,beq_iff_eq,Bool.false_eq_true,false_iff,true_iff,Bool.not_eq_true',Bool.not_true,Bool.not_false] at *
            (omega)
  intro f hf
  repeat' (apply D7)
  refine j4 (α:=Bool) (fun f=>[(1,.pointer (some ⟨b,0,none⟩)),(2,.int .i64 0),(3,.pointer (some ⟨b3,0,none⟩)),(4,.pointer (some ⟨b4,0,none⟩)),(5,.bool f)]) (fun _=> .blk b3 29 [.int .i64 t.w,.int .i64 t.h,.slice ga gn gc]:: .blk b4 29 [.int .i64 t.w2,.int .i64 t.h2,.slice oa on oc]:: .blk b 41 (tocC t ga gn gc oa on oc pa pn pc)::H) (fun f=>f=true↔tk4 t ge gd pe ps) ?_ ?_
  · have hz2:tk3 t ge gd pe ps→ge=0∧1≤t.w∧t.w≤160∧1≤t.h∧t.h≤60:=fun h=>⟨(BI6 h).1,by have:=(BI6 h).1;omega⟩
    generalize hPP:tk3 t ge gd pe ps=Q at *
    unfold tocC
    cases f
    · have hQ:¬Q:=fun h=>nomatch hf.2 h
      clear hz2
      repeat' (first|(apply F3;first|(apply C8;refine A8 ?_)|(apply C9;refine D8 rfl rfl ?_)|(apply D6;refine D9 rfl rfl ?_)|(apply I6;refine I9 rfl rfl ?_;apply O1;refine O3 rfl ?_)|(apply I1;refine J9 rfl rfl rfl rfl ?_;apply I5))|(apply A7))
      all_goals (skip)
      all_goals
        apply J6
        case hs=>repeat (first|exact Le.nil _|refine Le.cons rfl ?_)
        case hH=>exact I8
        case hI=>
          unfold tk4
          rw[hPP]
          simp [hQ]
    · have hQ:Q:=hf.1 rfl
      have hz:=hz2 hQ
      clear hz2
      repeat' (first|(apply F3;first|(apply C8;refine A8 ?_)|(apply C9;refine D8 rfl rfl ?_)|(apply E5;refine F5 rfl rfl rfl ?_;first|(apply y9;refine F7 rfl ?_)|refine F7 rfl ?_)|(apply F4;refine F8 rfl rfl ?_;refine G6 rfl ?_)|(apply D6;refine D9 rfl rfl ?_)|(apply I6;refine I9 rfl rfl ?_;first|(apply Q9;refine Q8 rfl ?_)|(apply O1;refine O3 rfl ?_))|(apply G7;refine G8 (E8 rfl rfl) rfl ?_)|(apply H6;refine F9 rfl rfl rfl (cW _ _ _ _) rfl rfl ?_)|(apply I1;refine J9 rfl rfl rfl rfl ?_;first|(apply I7)|(apply I5)|(apply E9<;>intro hq<;>(try (exfalso;omega)))))|(apply A7))
      all_goals (skip)
      all_goals
        apply J6
        case hs=>repeat (first|exact Le.nil _|refine Le.cons rfl ?_)
        case hH=>exact I8
        case hI=>
          unfold tk4
          rw[hPP]
          simp only[hQ,true_and]
          try simp only[dbeq,decide_eq_true_eq,beq_iff_eq,Bool.false_eq_true,false_iff,true_iff,Bool.not_eq_true',Bool.not_true,Bool.not_false] at *
          (omega)
  intro f hf
  repeat' (apply D7)
  refine j4 (α:=Bool) (fun f=>[(1,.pointer (some ⟨b,0,none⟩)),(2,.int .i64 0),(3,.pointer (some ⟨b3,0,none⟩)),(4,.pointer (some ⟨b4,0,none⟩)),(5,.bool f)]) (fun _=> .blk b3 29 [.int .i64 t.w,.int .i64 t.h,.slice ga gn gc]:: .blk b4 29 [.int .i64 t.w2,.int .i64 t.h2,.slice oa on oc]:: .blk b 41 (tocC t ga gn gc oa on oc pa pn pc)::H) (fun f=>f=true↔tk5 t ge gd pe ps) ?_ ?_
  · have hz2:tk4 t ge gd pe ps→ge=0∧1≤t.w∧t.w≤160∧1≤t.h∧t.h≤60:=fun h=>⟨(BL3 h).1,by have:=(BL3 h).1;omega⟩
    generalize hPP:tk4 t ge gd pe ps=Q at *
    unfold tocC
    cases f
    · have hQ:¬Q:=fun h=>nomatch hf.2 h
      clear hz2
      repeat' (first|(apply F3;first|(apply C8;refine A8 ?_)|(apply C9;refine D8 rfl rfl ?_)|(apply D6;refine D9 rfl rfl ?_)|(apply I6;refine I9 rfl rfl ?_;apply O1;refine O3 rfl ?_)|(apply I1;refine J9 rfl rfl rfl rfl ?_;apply I5))|(apply A7))
      all_goals (skip)
      all_goals
        apply J6
        case hs=>repeat (first|exact Le.nil _|refine Le.cons rfl ?_)
        case hH=>exact I8
        case hI=>
          unfold tk5
          rw[hPP]
          simp [hQ]
    · have hQ:Q:=hf.1 rfl
      have hz:=hz2 hQ
      clear hz2
      repeat' (first|(apply F3;first|(apply C8;refine A8 ?_)|(apply C9;refine D8 rfl rfl ?_)|(apply E5;refine F5 rfl rfl rfl ?_;refine F7 rfl ?_)|(apply F4;refine F8 rfl rfl ?_;first|refine G6 rfl ?_ |refine L8 rfl rfl ?_)|(apply D6;refine D9 rfl rfl ?_)|(apply I6;refine I9 rfl rfl ?_;first|(apply Q9;refine Q8 rfl ?_)|(apply O1;refine O3 rfl ?_))|(apply G7;first|refine G8 (E8 rfl rfl) rfl ?_ |refine G8 (w9 rfl rfl) rfl ?_)|(apply H6;first|refine F9 rfl rfl rfl (cW _ _ _ _) rfl rfl ?_ |refine F9 rfl rfl rfl (cP _) rfl rfl ?_ |refine F9 rfl rfl rfl (cP2 _) rfl rfl ?_)|(apply I1;refine J9 rfl rfl rfl rfl ?_;first|(apply I7)|(apply I5)|(apply E9<;>intro hq<;>(try (exfalso;omega)))))|(apply A7))
      all_goals (skip)
      all_goals
        apply J6
        case hs=>repeat (first|exact Le.nil _|refine Le.cons rfl ?_)
        case hH=>exact I8
        case hI=>
          unfold tk5
          rw[hPP]
          simp only[hQ,true_and]
          try simp only[dbeq,decide_eq_true_eq,beq_iff_eq,Bool.false_eq_true,false_iff,true_iff,Bool.not_eq_true',Bool.not_true,Bool.not_false] at *
          (omega)
  intro f hf
  repeat' (first|(apply F3;first|(apply C8;refine A8 ?_)|(apply C9;refine D8 rfl rfl ?_))|(apply D7)|(apply F6)|((fail_if_success (refine K3 (id:=7) ?_));apply A7)|(apply D5))
  refine R9 (α:=Nat×Bool) (fun g=>[(1,.pointer (some ⟨b,0,none⟩)),(2,.int .i64 0),(3,.pointer (some ⟨b3,0,none⟩)),(4,.pointer (some ⟨b4,0,none⟩)),(5,.bool g.2),(98,.int .i64 g.1)]) (fun _=> .blk b3 29 [.int .i64 t.w,.int .i64 t.h,.slice ga gn gc]:: .blk b4 29 [.int .i64 t.w2,.int .i64 t.h2,.slice oa on oc]:: .blk b 41 (tocC t ga gn gc oa on oc pa pn pc)::H) (fun g=>g.1≤2∧(g.2=true↔tkl g.1 t ge gd pe ps)) (fun g=>2-g.1) (0,f) ⟨Nat.zero_le _,by dsimp only;rw[hf];unfold tkl;simp⟩ (by repeat (first|exact Le.nil _|refine Le.cons (by (rfl)) ?_)) I8 ?_
  clear hf
  rintro ⟨i,f⟩ ⟨hi,hf⟩
  dsimp only at hi hf ⊢
  by_cases hlt:(i:Int)<2
  · unfold tocC
    obtain rfl|rfl:i=0∨i=1:=by omega
    · generalize hPP:tkl 0 t ge gd pe ps=Q at *
      have hst:tkl (0+1) t ge gd pe ps↔(Q∧((1≤t.p0∧t.p0≤4)∧(1≤t.sp0∧t.sp0≤4))):=by
        subst hPP
        unfold tkl
        generalize tk5 t ge gd pe ps=R
        constructor
        · rintro ⟨h1,h2,h3⟩
          exact⟨⟨h1,by omega,by omega⟩,by omega⟩
        · rintro ⟨⟨h1,h2,h3⟩,h4⟩
          exact⟨h1,by omega,by omega⟩
      cases f
      · have hQ:¬Q:=fun h=>nomatch hf.2 h
        repeat' (first|(apply F3;first|(apply C8;refine A8 ?_)|(apply C9;refine D8 rfl rfl ?_)|(apply E5;refine F5 rfl rfl rfl ?_;first|(apply M0;refine L9 ⟨by omega,by omega⟩ ?_)|refine F7 rfl ?_)|(apply D6;refine D9 rfl rfl ?_)|(apply I6;refine I9 rfl rfl ?_;apply O1;refine O3 rfl ?_)|(apply I1;refine J9 rfl rfl rfl rfl ?_;apply I5))|(apply D7)|(apply G9)|(apply F6)|(apply A7)|(refine G5 rfl ?_;apply I7)|(apply D5)|(apply J2))
        all_goals (skip)
        all_goals first
          | (refine J6 ((0:Nat)+1,false) ?_ ?_ ?_
             rotate_left 1
             focus (repeat (first|exact Le.nil _|refine Le.cons rfl ?_))
             exact I8
             refine⟨⟨by dsimp only;omega,?_⟩,by dsimp only;omega⟩
             dsimp only
             rw[hst]
             simp [hQ])
      · have hQ:Q:=hf.1 rfl
        repeat' (first|(apply F3;first|(apply C8;refine A8 ?_)|(apply C9;refine D8 rfl rfl ?_)|(apply E5;refine F5 rfl rfl rfl ?_;first|(apply M0;refine L9 ⟨by omega,by omega⟩ ?_)|refine F7 rfl ?_)|(apply F4;refine F8 rfl rfl ?_;refine G6 rfl ?_)|(apply D6;refine D9 rfl rfl ?_)|(apply I6;refine I9 rfl rfl ?_;first|(apply Q9;refine Q8 rfl ?_)|(apply O1;refine O3 rfl ?_))|(apply G7;first|refine G8 (E8 rfl rfl) rfl ?_ |refine G8 (w9 rfl rfl) rfl ?_)|(apply M4;refine N9 (AB7 rfl rfl rfl (by omega) (by omega)) rfl ?_)|(apply H6;refine F9 rfl rfl rfl (cK _ _) rfl rfl ?_)|(apply I1;refine J9 rfl rfl rfl rfl ?_;first|(apply I7)|(apply I5)|(apply E9<;>intro hq<;>(try (exfalso;omega)))))|(apply D7)|(apply G9)|(apply F6)|(apply A7)|(refine G5 rfl ?_;apply I7)|(apply D5)|(apply J2))
        all_goals (skip)
        · refine J6 ((0:Nat)+1,decide (1≤t.sp0∧t.sp0≤4)) ?_ ?_ ?_
          rotate_left 1
          focus (repeat (first|exact Le.nil _|refine Le.cons rfl ?_))
          exact I8
          refine⟨⟨by dsimp only;omega,?_⟩,by dsimp only;omega⟩
          dsimp only
          rw[hst]
          simp only[hQ,true_and,decide_eq_true_eq,Bool.false_eq_true,false_iff]
          omega
        · refine J6 ((0:Nat)+1,false) ?_ ?_ ?_
          rotate_left 1
          focus (repeat (first|exact Le.nil _|refine Le.cons rfl ?_))
          exact I8
          refine⟨⟨by dsimp only;omega,?_⟩,by dsimp only;omega⟩
          dsimp only
          rw[hst]
          simp only[hQ,true_and,decide_eq_true_eq,Bool.false_eq_true,false_iff]
          omega
    · generalize hPP:tkl 1 t ge gd pe ps=Q at *
      have hst:tkl (1+1) t ge gd pe ps↔(Q∧((1≤t.p1∧t.p1≤4)∧(1≤t.sp1∧t.sp1≤4))):=by
        subst hPP
        unfold tkl
        generalize tk5 t ge gd pe ps=R
        constructor
        · rintro ⟨h1,h2,h3⟩
          exact⟨⟨h1,by omega,by omega⟩,by omega⟩
        · rintro ⟨⟨h1,h2,h3⟩,h4⟩
          exact⟨h1,by omega,by omega⟩
      cases f
      · have hQ:¬Q:=fun h=>nomatch hf.2 h
        repeat' (first|(apply F3;first|(apply C8;refine A8 ?_)|(apply C9;refine D8 rfl rfl ?_)|(apply E5;refine F5 rfl rfl rfl ?_;first|(apply M0;refine L9 ⟨by omega,by omega⟩ ?_)|refine F7 rfl ?_)|(apply D6;refine D9 rfl rfl ?_)|(apply I6;refine I9 rfl rfl ?_;apply O1;refine O3 rfl ?_)|(apply I1;refine J9 rfl rfl rfl rfl ?_;apply I5))|(apply D7)|(apply G9)|(apply F6)|(apply A7)|(refine G5 rfl ?_;apply I7)|(apply D5)|(apply J2))
        all_goals (skip)
        all_goals first
          | (refine J6 ((1:Nat)+1,false) ?_ ?_ ?_
             rotate_left 1
             focus (repeat (first|exact Le.nil _|refine Le.cons rfl ?_))
             exact I8
             refine⟨⟨by dsimp only;omega,?_⟩,by dsimp only;omega⟩
             dsimp only
             rw[hst]
             simp [hQ])
      · have hQ:Q:=hf.1 rfl
        repeat' (first|(apply F3;first|(apply C8;refine A8 ?_)|(apply C9;refine D8 rfl rfl ?_)|(apply E5;refine F5 rfl rfl rfl ?_;first|(apply M0;refine L9 ⟨by omega,by omega⟩ ?_)|refine F7 rfl ?_)|(apply F4;refine F8 rfl rfl ?_;refine G6 rfl ?_)|(apply D6;refine D9 rfl rfl ?_)|(apply I6;refine I9 rfl rfl ?_;first|(apply Q9;refine Q8 rfl ?_)|(apply O1;refine O3 rfl ?_))|(apply G7;first|refine G8 (E8 rfl rfl) rfl ?_ |refine G8 (w9 rfl rfl) rfl ?_)|(apply M4;refine N9 (AB7 rfl rfl rfl (by omega) (by omega)) rfl ?_)|(apply H6;refine F9 rfl rfl rfl (cK _ _) rfl rfl ?_)|(apply I1;refine J9 rfl rfl rfl rfl ?_;first|(apply I7)|(apply I5)|(apply E9<;>intro hq<;>(try (exfalso;omega)))))|(apply D7)|(apply G9)|(apply F6)|(apply A7)|(refine G5 rfl ?_;apply I7)|(apply D5)|(apply J2))
        all_goals (skip)
        · refine J6 ((1:Nat)+1,decide (1≤t.sp1∧t.sp1≤4)) ?_ ?_ ?_
          rotate_left 1
          focus (repeat (first|exact Le.nil _|refine Le.cons rfl ?_))
          exact I8
          refine⟨⟨by dsimp only;omega,?_⟩,by dsimp only;omega⟩
          dsimp only
          rw[hst]
          simp only[hQ,true_and,decide_eq_true_eq,Bool.false_eq_true,false_iff]
          omega
        · refine J6 ((1:Nat)+1,false) ?_ ?_ ?_
          rotate_left 1
          focus (repeat (first|exact Le.nil _|refine Le.cons rfl ?_))
          exact I8
          refine⟨⟨by dsimp only;omega,?_⟩,by dsimp only;omega⟩
          dsimp only
          rw[hst]
          simp only[hQ,true_and,decide_eq_true_eq,Bool.false_eq_true,false_iff]
          omega
  obtain rfl:i=2:=by omega
  repeat' (first|(apply F3;first|(apply C8;refine A8 ?_)|(apply E5;refine F5 rfl rfl rfl ?_;refine F7 rfl ?_))|(apply D7)|(apply N8)|((fail_if_success (refine K3 (id:=11) ?_));apply A7)|(refine G5 rfl ?_;apply I5)|(apply D5)|(apply J7)|(apply J8))
  refine j4 (α:=Bool) (fun f=>[(1,.pointer (some ⟨b,0,none⟩)),(2,.int .i64 0),(3,.pointer (some ⟨b3,0,none⟩)),(4,.pointer (some ⟨b4,0,none⟩)),(5,.bool f)]) (fun _=> .blk b3 29 [.int .i64 t.w,.int .i64 t.h,.slice ga gn gc]:: .blk b4 29 [.int .i64 t.w2,.int .i64 t.h2,.slice oa on oc]:: .blk b 41 (tocC t ga gn gc oa on oc pa pn pc)::H) (fun f=>f=true↔Ah6 t ge gd pe ps) ?_ ?_
  · have hz2:tkl 2 t ge gd pe ps→ge=0∧1≤t.w∧t.w≤160∧1≤t.h∧t.h≤60:=fun h=>⟨(BL2 h).1,by have:=(BL2 h).1;omega⟩
    generalize hPP:tkl 2 t ge gd pe ps=Q at *
    unfold tocC
    cases f
    · have hQ:¬Q:=fun h=>nomatch hf.2 h
      clear hz2
      repeat' (first|(apply F3;first|(apply C8;refine A8 ?_)|(apply C9;refine D8 rfl rfl ?_)|(apply D6;refine D9 rfl rfl ?_)|(apply I6;refine I9 rfl rfl ?_;apply O1;refine O3 rfl ?_)|(apply I1;refine J9 rfl rfl rfl rfl ?_;apply I5))|(apply A7))
      all_goals (skip)
      all_goals
        apply J6
        case hs=>repeat (first|exact Le.nil _|refine Le.cons rfl ?_)
        case hH=>exact I8
        case hI=>
          unfold Ah6
          rw[hPP]
          simp [hQ]
    · have hQ:Q:=hf.1 rfl
      have hz:=hz2 hQ
      clear hz2
      repeat' (first|(apply F3;first|(apply C8;refine A8 ?_)|(apply C9;refine D8 rfl rfl ?_)|(apply F4;refine F8 rfl rfl ?_;refine G6 rfl ?_)|(apply D6;refine D9 rfl rfl ?_)|(apply I6;refine I9 rfl rfl ?_;first|(apply Q9;refine Q8 rfl ?_)|(apply O1;refine O3 rfl ?_))|(apply G7;first|refine G8 (E8 rfl rfl) rfl ?_ |refine G8 (w9 rfl rfl) rfl ?_)|(apply H6;refine F9 rfl rfl rfl (cW _ _ _ _) rfl rfl ?_)|(apply I1;refine J9 rfl rfl rfl rfl ?_;first|(apply I7)|(apply I5)|(apply E9<;>intro hq<;>(try (exfalso;omega)))))|(apply A7))
      all_goals (skip)
      all_goals
        apply J6
        case hs=>repeat (first|exact Le.nil _|refine Le.cons rfl ?_)
        case hH=>exact I8
        case hI=>
          unfold Ah6
          rw[hPP]
          simp only[hQ,true_and]
          try simp only[dbeq,decide_eq_true_eq,beq_iff_eq,Bool.false_eq_true,false_iff,true_iff,Bool.not_eq_true',Bool.not_true,Bool.not_false] at *
          (omega)
  intro f hf
  repeat' (apply D7)
  refine j4 (α:=Bool) (fun f=>[(1,.pointer (some ⟨b,0,none⟩)),(2,.int .i64 0),(3,.pointer (some ⟨b3,0,none⟩)),(4,.pointer (some ⟨b4,0,none⟩)),(5,.bool f)]) (fun _=> .blk b3 29 [.int .i64 t.w,.int .i64 t.h,.slice ga gn gc]:: .blk b4 29 [.int .i64 t.w2,.int .i64 t.h2,.slice oa on oc]:: .blk b 41 (tocC t ga gn gc oa on oc pa pn pc)::H) (fun f=>f=true↔Aj7 t ge gd pe ps) ?_ ?_
  · have hz2:Ah6 t ge gd pe ps→ge=0∧1≤t.w∧t.w≤160∧1≤t.h∧t.h≤60:=fun h=>⟨(A04 h).1,by have:=(A04 h).1;omega⟩
    generalize hPP:Ah6 t ge gd pe ps=Q at *
    unfold tocC
    cases f
    · have hQ:¬Q:=fun h=>nomatch hf.2 h
      clear hz2
      repeat' (first|(apply F3;first|(apply C8;refine A8 ?_)|(apply C9;refine D8 rfl rfl ?_)|(apply D6;refine D9 rfl rfl ?_)|(apply I6;refine I9 rfl rfl ?_;apply O1;refine O3 rfl ?_)|(apply I1;refine J9 rfl rfl rfl rfl ?_;apply I5))|(apply A7))
      all_goals (skip)
      all_goals
        apply J6
        case hs=>repeat (first|exact Le.nil _|refine Le.cons rfl ?_)
        case hH=>exact I8
        case hI=>
          unfold Aj7
          rw[hPP]
          simp [hQ]
    · have hQ:Q:=hf.1 rfl
      have hz:=hz2 hQ
      clear hz2
      repeat' (first|(apply F3;first|(apply C8;refine A8 ?_)|(apply C9;refine D8 rfl rfl ?_)|(apply F4;refine F8 rfl rfl ?_;refine G6 rfl ?_)|(apply D6;refine D9 rfl rfl ?_)|(apply I6;refine I9 rfl rfl ?_;first|(apply Q9;refine Q8 rfl ?_)|(apply O1;refine O3 rfl ?_))|(apply G7;first|refine G8 (E8 rfl rfl) rfl ?_ |refine G8 (w9 rfl rfl) rfl ?_)|(apply H6;refine F9 rfl rfl rfl (cW _ _ _ _) rfl rfl ?_)|(apply I1;refine J9 rfl rfl rfl rfl ?_;first|(apply I7)|(apply I5)|(apply E9<;>intro hq<;>(try (exfalso;omega)))))|(apply A7))
      all_goals (skip)
      all_goals
        apply J6
        case hs=>repeat (first|exact Le.nil _|refine Le.cons rfl ?_)
        case hH=>exact I8
        case hI=>
          unfold Aj7
          rw[hPP]
          simp only[hQ,true_and]
          try simp only[dbeq,decide_eq_true_eq,beq_iff_eq,Bool.false_eq_true,false_iff,true_iff,Bool.not_eq_true',Bool.not_true,Bool.not_false] at *
          (omega)
  intro f hf
  repeat' (apply D7)
  refine j4 (α:=Bool) (fun f=>[(1,.pointer (some ⟨b,0,none⟩)),(2,.int .i64 0),(3,.pointer (some ⟨b3,0,none⟩)),(4,.pointer (some ⟨b4,0,none⟩)),(5,.bool f)]) (fun _=> .blk b3 29 [.int .i64 t.w,.int .i64 t.h,.slice ga gn gc]:: .blk b4 29 [.int .i64 t.w2,.int .i64 t.h2,.slice oa on oc]:: .blk b 41 (tocC t ga gn gc oa on oc pa pn pc)::H) (fun f=>f=true↔Aa1 bX t ge gd pe ps) ?_ ?_
  · have hz2:Aj7 t ge gd pe ps→ge=0∧1≤t.w∧t.w≤160∧1≤t.h∧t.h≤60:=fun h=>⟨(Az8 h).1,by have:=(Az8 h).1;omega⟩
    generalize hPP:Aj7 t ge gd pe ps=Q at *
    unfold tocC
    cases bX
    all_goals
      cases f
      · have hQ:¬Q:=fun h=>nomatch hf.2 h
        clear hz2
        repeat' (first|(apply F3;first|(apply C8;refine A8 ?_)|(apply C9;refine D8 rfl rfl ?_)|(apply D6;refine D9 rfl rfl ?_)|(apply I6;refine I9 rfl rfl ?_;apply O1;refine O3 rfl ?_)|(apply I1;refine J9 rfl rfl rfl rfl ?_;apply I5))|(apply A7))
        all_goals (skip)
        all_goals
          apply J6
          case hs=>repeat (first|exact Le.nil _|refine Le.cons rfl ?_)
          case hH=>exact I8
          case hI=>
            unfold Aa1
            rw[hPP]
            simp [hQ]
      · have hQ:Q:=hf.1 rfl
        have hz:=hz2 hQ
        clear hz2
        repeat' (first|(apply F3;first|(apply C8;refine A8 ?_)|(apply C9;refine D8 rfl rfl ?_)|(apply E5;refine F5 rfl rfl rfl ?_;refine F7 rfl ?_)|(apply F4;refine F8 rfl rfl ?_;refine G6 rfl ?_)|(apply D6;refine D9 rfl rfl ?_)|(apply I6;refine I9 rfl rfl ?_;first|(apply Q9;refine Q8 rfl ?_)|(apply O1;refine O3 rfl ?_))|(apply G7;refine G8 (E8 rfl rfl) rfl ?_)|(apply H6;refine F9 rfl rfl rfl (cX _ inferInstance hr.cons.cons.cons) rfl rfl ?_)|(apply J5;refine s_call (Q3 rfl rfl) rfl ?_)|(apply I1;refine J9 rfl rfl rfl rfl ?_;first|(apply I7)|(apply I5)|(apply E9<;>intro hq<;>(try (exfalso;omega)))))|(apply A7))
        all_goals (skip)
        all_goals
          apply J6
          case hs=>repeat (first|exact Le.nil _|refine Le.cons rfl ?_)
          case hH=>exact I8
          case hI=>
            unfold Aa1
            rw[hPP]
            simp only[hQ,true_and]
            try simp only[eq_self,reduceCtorEq,and_true,and_false,dbeq,decide_eq_true_eq,beq_iff_eq,Bool.false_eq_true,false_iff,true_iff,Bool.not_eq_true',Bool.not_true,Bool.not_false] at *
            (first|done|omega)
  intro f hf
  cases f
  · have hn:¬Aa1 bX t ge gd pe ps:=fun h=>nomatch hf.2 h
    obtain rfl:e=4:=he.elim (fun h=>absurd h.2 hn) (fun h=>h.1)
    repeat' (first|(apply F3;first|(apply C8;refine A8 ?_)|(apply C9;refine D8 rfl rfl ?_)|(apply D6;refine D9 rfl rfl ?_)|(apply Y0;refine Z8 (Z7 rfl rfl rfl) rfl ?_))|(apply D7)|(apply H7)|(apply A7)|(refine G5 rfl ?_;apply I7)|(apply D5)|(apply J4))
    all_goals (skip)
    all_goals
      refine M3 (by (exact .inr rfl)) rfl N7 ?_
      rfl
  · have hy:Aa1 bX t ge gd pe ps:=hf.1 rfl
    obtain rfl:e=0:=he.elim (fun h=>h.1) (fun h=>absurd hy h.2)
    repeat' (first|(apply F3;first|(apply C8;refine A8 ?_)|(apply C9;refine D8 rfl rfl ?_)|(apply D6;refine D9 rfl rfl ?_)|(apply Y0;refine Z8 (Z7 rfl rfl rfl) rfl ?_))|(apply D7)|(apply G9)|(apply H7)|(apply A7)|(refine G5 rfl ?_;apply I5)|(apply D5))
    all_goals (skip)
    all_goals
      refine M3 (by (exact .inr rfl)) rfl N7 ?_
      rfl
end
end Go.Proofs.YtmmnimagbnlcmaaGreatDoor
