/- Texts of this claim, merged: TabSet Act1 Act2 Ter0 Ter1 Ter2. -/
import Derived.Test.YtmmnimagbnlcmaaGreatDoorTy12
import Derived.Test.YtmmnimagbnlcmaaGreatDoorRows
import Derived.WalkKit
import Derived.WalkSpells
import Derived.WalkLawsBesides
import Derived.Handy
import Derived.Lib.Hide
import Derived.Laws.BitsAllLaws
import Derived.Deep.MidRow
import Derived.Deep.WholeRow
import Derived.BigQuiet
import Derived.Deep.QuietTactic
import Derived.Laws.CopyOwn
import Derived.StillTailTactics
import Derived.RegionTactic
import Derived.ChangeAlike
import Derived.Laws.AppendOwnNone
import Derived.Laws.MakeOwn
import Derived.Laws.IdiomStrings
import Derived.OrdersHeld
import Derived.Lib.SliceRun
import Derived.ChangeKeysEq
import Derived.Laws.CopyRow
import Derived.Lib.AppendStr
import Derived.ArgAppend
import Derived.Lib.Replace
import Derived.Shelf.Strings.Builder1
import Derived.Shelf.Strings.Builder2
import Derived.Shelf.Strings.OnBuilder
import Derived.Shelf.Strings.Trim
import Derived.Shelf.Small.Utf8
import Derived.Shelf.Small.Strs
import Derived.Shelf.Strings.BuilderF
import Derived.Shelf.Strconv.Itoa0
import Derived.Shelf.Strconv.Itoa1
import Derived.Shelf.LaysM
import Derived.Shelf.Strconv.Itoa2
import Derived.Shelf.Strconv.Itoa3
import Derived.Shelf.Strings.Search1
import Derived.Shelf.Strings.Search2
import Derived.Shelf.Strings.Search3
import Derived.Shelf.Strings.Count
import Derived.Shelf.Strings.Shaped
import Derived.Shelf.Strings.LastIndex
import Derived.Shelf.Strings.Prefix
import Derived.Shelf.Strings.Split
import Derived.Shelf.Strings.Replace
import Derived.Shelf.Strings.SplitShaped
import Derived.Shelf.Strings.Runes
import Derived.Shelf.Strings.AsciiSet
import Derived.Shelf.Bits.Mul64
import Derived.Shelf.Strings.Repeat
import Derived.Shelf.Unicode.DecodeSlow
import Derived.Shelf.Unicode.DecodeAny
import Derived.Shelf.Unicode.ValidAny
import Derived.Test.YtmmnimagbnlcmaaGreatDoorProg
import Derived.Laws.RangeAny
import Derived.Maps.RangeRun
import Derived.Lib.Join
import Derived.Lib.IndexLaws
import Derived.Lib.IndexMore
import Derived.Lib.SplitLaws
import Derived.Lib.Bytealg
set_option maxRecDepth 100000
set_option maxHeartbeats 8000000
open Go Go.RowKit Go.Fw Go.Sx
namespace Go.Proofs.YtmmnimagbnlcmaaGreatDoor
section
attribute [local irreducible] SW SL SQ AtQ SV SC BB LD PK Yields SO SOT SOA SY SP SPT SPA
def AJ9 (f:Nat→Nat) (col:Nat) (on:Bool):Nat→Nat:=if on then setF (clrF f col) col else clrF f col
theorem Ai4 (G:Ctx) (H:List Ent) (f:Nat→Nat) (hf:Wf f) (col:Nat) (on:Bool) (h:col<256):SV Tryz.prog G 160 [.agg (AA1 f).toArray,.int .i64 col,.bool on] H (.tuple #[.agg (AA1 (AJ9 f col on)).toArray,.int .i64 0]):=by
 obtain⟨hc1,hc2⟩:=A43 f col hf h
 obtain⟨hs1,hs2⟩:=Aa6 (clrF f col) col hc2 h
 have hx:=AX3 f (col / 64) (by omega)
 have hy:=AX3 (clrF f col) (col / 64) (by omega)
 have hset1:=Aa1 f (clrF f col) (col / 64) (by omega) (fun i hi=>if_neg hi)
 have hset2:=Aa1 (clrF f col) (setF (clrF f col) col) (col / 64) (by omega) (fun i hi=>if_neg hi)
 have hi0:0+((col:Int) / 64).toNat * 1=col / 64:=by omega
 rw[←hi0] at hx hy hset1 hset2
 have hD:pw ((col:Int) % 64).toNat=pw (col % 64):=by rw[show ((col:Int) % 64).toNat=col % 64 from by omega]
 generalize pw (col % 64)=D at *
 rw[←hi0] at hc1 hs1
 have Hi:=Lib.hid hi0
 clear hi0
 unfold AJ9
 refine AF2 Tryz.func160 O O O O O ?_
 have hl1:0+((col:Int) / 64).toNat * 1<(AA1 f).length:=by show _<4;omega
 have hl2:0+((col:Int) / 64).toNat * 1<(AA1 (clrF f col)).length:=by show _<4;omega
 cases on
 all_goals
  repeat' (first|(apply E8;first|(apply A8;refine A9 ?_)|(apply C8;refine D7 O O ?_)|(apply E5;refine F7 O O O ?_;refine F9 O ?_)|(apply F5;first|(refine F8 O O ?_;refine M5 O ?_)|(refine F8 O O ?_;first|refine F4 hx ?_ |refine F4 hy ?_))|(apply D5;refine D9 O O ?_)|(apply I6;refine J4 O O ?_;apply M6;refine M7 O ?_)|(apply H8;first|refine Q8 O O O O O O O O ?_ |(first|(refine AE9 O O O O O hset1 hl1 O ?_)|(refine AE9 O O O O O hset2 hl2 O ?_)))|(apply K6;refine L9 O O O O O O (fun _=>?_))|(apply O6;refine Q4 O O O O (fun _=>?_))|(apply I5;refine J9 O O O O ?_;apply I1))|(apply Q0;refine N8 (k:=0) J3 ?_)|(apply U3;first|(refine L8 O ?_)|(refine O4 O O O O (by kernel_rfl) (by decide+kernel) (by decide+kernel) ?_;first|(apply O1;refine G9 (P9 O O) ?_)|(apply AG6;refine AG7 O O ?_;first|(refine A94 hD (by omega) (by omega) ?_)|(refine AL8 O hc1 ?_)|(refine AL8 O hs1 ?_)|(first|(apply BV4;refine BV7 ⟨by omega,by omega⟩ (by omega) (by omega) ?_)|(apply BS3;refine BW2 (by omega) (by omega) ?_)))|(apply M3;refine G9 (D8 O O) ?_)|(apply AF3;refine G9 (l7 O O O (by omega) (by omega)) ?_))|(refine O5 O ?_)|(refine N9 (by decide+kernel) ?_)|(refine Q6 (by kernel_rfl) ?_))|(apply V3;first|(refine Q5 O)|(refine U1 (by decide+kernel) ?_)|(refine Q3 O ?_ ?_))|(apply D6)|(apply G8)|(apply I4)|(apply A7)|(refine G5 O ?_;first|(apply I1)|(apply H7)|(apply E9<;>intro hq<;>(try (exfalso;omega))))|(apply C9)|(first|(refine J5 (id:=3) ?_;refine Z6 (H) J3 ?_)|(refine J5 (id:=5) ?_;refine Z6 (H) J3 ?_)))
 all_goals (refine AB4 (H) (by (exact .inr O)) O (by (rfl)) O J3 ?_;exact⟨O,O⟩)
end
def onA (s:Scr) (m:Int):Bool:=iand s.modes m !=0
def setA (s:Scr) (m:Int) (on:Bool):Scr:={s with modes:=setM s.modes m on}
def rollA (s:Scr) (f t:Int) (n:Int):Scr:={s with C:=scrC s.C s.w s.h f.toNat t.toNat n (32,0,0,s.pb)}
def pushA (s:Scr):Scr:=if s.top=0∧onA s 256=false then {s with past:=AF8 s.past (rowQ s.w s.C 0)} else s
def lateA (s:Scr):Scr:={s with late:=false}
def j4 (s:Scr):Scr:=
 if s.row=s.bot-1 then rollA (pushA (lateA s)) s.top s.bot 1
 else if s.row<(s.h:Int)-1 then {s with late:=false,row:=s.row+1} else lateA s
def revA (s:Scr):Scr:=
 if s.row=s.top then rollA (lateA s) s.top s.bot (-1)
 else if 0<s.row then {s with late:=false,row:=s.row-1} else lateA s
def colA (s:Scr) (c:Int):Scr:={s with late:=false,col:=AI7 c 0 ((s.w:Int)-1)}
def rowAt (s:Scr) (r:Int):Scr:=if onA s 2=true then {s with row:=AI7 (r+s.top) s.top (s.bot-1)} else {s with row:=AI7 r 0 ((s.h:Int)-1)}
def moveA (s:Scr) (r c:Int):Scr:=colA (rowAt s r) c
def saveA (s:Scr):Scr:={s with sr:=s.row,sc:=s.col,spf:=s.pf,spr:=s.pr,spb:=s.pb,so:=onA s 2,sp0:=s.p0,sp1:=s.p1,ssh:=s.sh}
def backA (s:Scr):Scr:=setA {s with row:=min s.sr ((s.h:Int)-1),pf:=s.spf,pr:=s.spr,pb:=s.spb,p0:=s.sp0,p1:=s.sp1,sh:=s.ssh} 2 s.so
def restA (s:Scr):Scr:=colA (backA s) s.sc
def AP7 (s:Scr) (k:Nat) (M:List Qd):Scr:={s with C:=rowC s.C s.w k M}
def fillA (s:Scr) (r f t:Int):Scr:=AP7 (lateA s) r.toNat (mendQ J2 (genL qz (rowQ s.w s.C r.toNat) f.toNat t.toNat fun _=>(32,0,0,s.pb)))
def AH7 (s:Scr) (n:Int):Scr:=AP7 s s.row.toNat (mendQ J2 (genL qz (rowQ s.w s.C s.row.toNat) s.col.toNat s.w (shG qz (rowQ s.w s.C s.row.toNat) s.col.toNat s.w n (32,0,0,s.pb))))
def codeA (s:Scr) (c:Int):Int:=if 0≤c∧c≤127 then AD2 (if s.sh=0 then s.p0 else s.p1) c.toNat else c
def putA (s:Scr) (c:Int):Scr:=AP7 s s.row.toNat (mendQ J2 (putQ J2 (rowQ s.w s.C s.row.toNat) s.col.toNat c s.pf s.pr s.pb))
def goA (s:Scr) (w:Int):Scr:=if s.col+w>(s.w:Int)-1 then {s with col:=(s.w:Int)-1,late:=onA s 4} else {s with col:=s.col+w}
def insA (s:Scr) (w:Int):Scr:=if onA s 1=true then AH7 s w else s
def downA (s:Scr):Scr:=j4 (colA s 0)
def AV2 (s:Scr) (c w:Int):Scr:=goA (putA (insA s w) c) w
def A18 (s:Scr) (c w:Int):Scr:=if w=2∧s.col=(s.w:Int)-1 then (if onA s 4=false then s else AV2 (downA s) c w) else AV2 s c w
def A63 (s:Scr) (c w:Int):Scr:=if w=0∨w>s.w then s else A18 (if s.late=true then downA s else s) c w
def Ag1 (s:Scr) (c:Int):Scr:=A63 s (codeA s c) (J2 (codeA s c))
def nextA (s:Scr) (n:Int):Scr:=colA s (nextV s.st s.col.toNat n.toNat s.w)
def ctrlA (s:Scr) (c:Int):Scr:=
 if c=8 then colA s (s.col-1) else if c=9 then nextA s 1
 else if c=10∨c=11∨c=12 then (if onA (j4 s) 128=true then colA (j4 s) 0 else j4 s)
 else if c=13 then colA s 0 else if c=14 then {s with sh:=1} else if c=15 then {s with sh:=0} else s
def escA (s:Scr) (c:Int):Scr:=
 if c=68 then j4 s else if c=69 then downA s else if c=77 then revA s
 else if c=72 then {s with st:=AJ9 s.st s.col.toNat true} else if c=55 then saveA s else if c=56 then restA s
 else if c=61∨c=62 then setA s 32 (decide (c=61)) else if c=99 then newS s.w s.h else s
def AC2 (c:Int):Int:=if c=66 then 1 else if c=48 then 3 else if c=65 then 4 else 0
def eeA (s:Scr):Scr:=colA {s with C:=List.replicate s.C.length (69,0,0,0),row:=0,top:=0,bot:=s.h} 0
def pageA (s:Scr) (i:ByteArray) (c:Int):Scr:=
 if i=⟨#[40]⟩ then (if AC2 c=0 then s else {s with p0:=AC2 c})
 else if i=⟨#[41]⟩ then (if AC2 c=0 then s else {s with p1:=AC2 c})
 else if i=⟨#[35]⟩∧c=56 then eeA s else s
def upA (s:Scr) (n:Int):Scr:={s with late:=false,row:=AI7 (s.row-n) (if 0<n∧s.top≤s.row then s.top else 0) (if n<0∧s.row<s.bot then s.bot-1 else (s.h:Int)-1)}
def getA (L:List Int) (i:Nat) (d:Int):Int:=if i<L.length∧L.getD i 0≠ -1 then L.getD i 0 else d
def posA (L:List Int) (i:Nat):Int:=max (getA L i 1) 1
def cursA (s:Scr) (c n m:Int):Option Scr:=
 if c=65 then some (upA s n) else if c=66 then some (upA s (-n)) else if c=67 then some (colA s (s.col+n)) else if c=68 then some (colA s (s.col-n))
 else if c=69 then some (colA (upA s (-n)) 0) else if c=70 then some (colA (upA s n) 0) else if c=71∨c=96 then some (colA s (n-1))
 else if c=100 then some (moveA s (n-1) s.col) else if c=72∨c=102 then some (moveA s (n-1) (m-1)) else if c=73 then some (nextA s n)
 else if c=90 then some (colA s (backV s.st s.col.toNat n.toNat)) else if c=115 then some (saveA s) else if c=117 then some (restA s) else none
def lineA (s:Scr) (k:Int):Scr:=fillA s s.row (if k=0 then s.col else 0) (if k=1 then s.col+1 else s.w)
def wideA (s:Scr) (k row:Int) (r:Nat):Scr:=if k=2∨(k=0∧row<r)∨(k=1∧r<row) then fillA s r 0 s.w else s
def rowsTo (s:Scr) (k row:Int) (h:Nat):Scr:=(List.range h).foldl (fun s r=>wideA s k row r) s
def pageJ (s:Scr) (k:Int):Scr:=if k=3 then {s with past:=[]} else if 0≤k∧k≤2 then rowsTo (lineA s k) k s.row s.h else s
def AN4 (s:Scr) (c n k:Int):Option Scr:=
 if c=64 then some (AH7 (lateA s) n) else if c=80 then some (AH7 (lateA s) (-n)) else if c=74 then some (pageJ s k)
 else if c=75 then some (if 0≤k∧k≤2 then lineA s k else s) else if c=88 then some (fillA s s.row s.col (min (s.col+n) s.w))
 else if c=76∨c=77 then some (if s.top≤s.row∧s.row≤s.bot-1 then colA (rollA s s.row s.bot (if c=76 then-n else n)) 0 else s)
 else if c=83 then some (rollA (lateA s) s.top s.bot n) else if c=84 then some (rollA (lateA s) s.top s.bot (-n)) else none
def modeA (on:Bool) (s:Scr) (m:Int):Scr:=if m=4 then setA s 1 on else if m=20 then setA s 128 on else s
def edgeA (s:Scr) (b:Int):Int:=if b=0∨b>s.h then s.h else b
def penA (s:Scr) (t:Tri):Scr:={s with pf:=t.1,pr:=t.2.1,pb:=t.2.2}
def sgrA (s:Scr) (L:List Int):Scr:=if L.length=0∨L.any AD9=true∨32<L.length then s else penA s (sgrL (s.pf,s.pr,s.pb) L)
def decB (n:Int):ByteArray:=⟨(Lib.itoa n).toArray⟩
def rowN (s:Scr):Int:=if onA s 2=true then s.row+1-s.top else s.row+1
def tellA (s:Scr) (k:Int):ByteArray:=
 if k=5 then ⟨#[27,91,48,110]⟩ else if k=6 then ⟨#[27,91]⟩++decB (rowN s)++⟨#[59]⟩++decB (s.col+1)++⟨#[82]⟩ else e0
def AV8 (s:Scr) (c n k:Int) (L:List Int):Scr:=
 if c=103 then (if k=0 then {s with st:=AJ9 s.st s.col.toNat false} else if k=3 then {s with st:=fun _=>0} else s)
 else if c=104∨c=108 then L.foldl (modeA (decide (c=104))) s
 else if c=109 then sgrA s L
 else if c=114 then (if n<edgeA s (getA L 1 0) then moveA {s with top:=n-1,bot:=edgeA s (getA L 1 0)} 0 0 else s)
 else s
def AS1 (s:Scr) (c k:Int):ByteArray:=if c=110 then tellA s k else if c=99∧k=0 then ⟨#[27,91,63,54,50,99]⟩ else e0
def swapA (s:Scr):Scr:={s with C:=s.D,D:=s.C}
def allA (s:Scr) (h:Nat):Scr:=(List.range h).foldl (fun (s:Scr) (r:Nat)=>fillA s r 0 s.w) s
def otherOn (s:Scr) (on:Bool):Scr:=
 if on=onA s 256 then s else if on=true then setA (allA (swapA (saveA s)) s.h) 256 true else setA (restA (swapA s)) 256 false
def privA (on:Bool) (s:Scr) (m:Int):Scr:=
 if m=1 then setA s 16 on else if m=6 then moveA (setA s 2 on) 0 0 else if m=7 then setA s 4 on else if m=25 then setA s 8 on
 else if m=1000 then setA s 512 on else if m=1006 then setA s 1024 on else if m=2004 then setA s 64 on else if m=1049 then otherOn s on else s
def seqA (s:Scr) (c m:Int) (L:List Int):Scr:=
 if m=0 then (match cursA s c (posA L 0) (posA L 1) with|some x=>x|none=>match AN4 s c (posA L 0) (getA L 0 0) with|some x=>x|none=>AV8 s c (posA L 0) (getA L 0 0) L)
 else if m=63∧(c=104∨c=108) then L.foldl (privA (decide (c=104))) s else s
def seqT (s:Scr) (c m:Int) (L:List Int):ByteArray:=
 if m=0 then AS1 s c (getA L 0 0) else if m=62∧c=99∧getA L 0 0=0 then ⟨#[27,91,62,49,59,49,48,59,48,99]⟩ else e0
def titA (s:Scr) (t:ByteArray):Scr:=if Lib.hasPrefix t.data.toList [48,59]=true∨Lib.hasPrefix t.data.toList [50,59]=true then {s with ti:=t.extract 2 t.size} else s
def actA (s:Scr) (y:Pa):Scr:=
 if y.1=1 then Ag1 s y.2.1 else if y.1=2 then ctrlA s y.2.1 else if y.1=3 then (if y.2.2.2.1=e0 then escA s y.2.1 else pageA s y.2.2.2.1 y.2.1)
 else if y.1=5 then titA s y.2.2.2.2.2 else if y.1=4∧y.2.2.2.1=e0 then seqA s y.2.1 y.2.2.1 y.2.2.2.2.1 else s
def actT (s:Scr) (y:Pa):ByteArray:=if y.1=4∧y.2.2.2.1=e0 then seqT s y.2.1 y.2.2.1 y.2.2.2.2.1 else e0
def runA (s:Scr) (A:List Pa):Scr:=A.foldl actA s
def sentA:Scr→List Pa→ByteArray
 | _,[]=>e0
 | s,y::A=>actT s y++sentA (actA s y) A
structure OkS (s:Scr):Prop where
 g:GrOk s.w s.h s.C
 o:GrOk s.w s.h s.D
 row:0≤s.row∧s.row<s.h
 col:0≤s.col∧s.col<s.w
 late:s.late=true→s.col=(s.w:Int)-1
 top:0≤s.top∧s.top<s.bot∧s.bot≤s.h
 pen:penB s.pf s.pr s.pb=true
 spen:penB s.spf s.spr s.spb=true
 modes:0≤s.modes∧s.modes≤2047
 p0:1≤s.p0∧s.p0≤4
 p1:1≤s.p1∧s.p1≤4
 sp0:1≤s.sp0∧s.sp0≤4
 sp1:1≤s.sp1∧s.sp1≤4
 sh:0≤s.sh∧s.sh≤1
 ssh:0≤s.ssh∧s.ssh≤1
 sr:0≤s.sr∧s.sr≤59
 sc:0≤s.sc∧s.sc≤159
 ti:s.ti.size≤256
 past:s.past.length≤40
 rows:∀r∈s.past,GrOk r.length 1 r
 st:Wf s.st
theorem AW8 {n lo hi:Int} (h:lo≤hi):lo≤AI7 n lo hi∧AI7 n lo hi≤hi:=by unfold AI7;omega
theorem OkS.at {s:Scr} (h:OkS s) {r c:Int} {l:Bool} (hr:0≤r∧r<s.h) (hc:0≤c∧c<s.w) (hl:l=true→c=(s.w:Int)-1):OkS {s with row:=r,col:=c,late:=l}:=
 ⟨h.g,h.o,hr,hc,hl,h.top,h.pen,h.spen,h.modes,h.p0,h.p1,h.sp0,h.sp1,h.sh,h.ssh,h.sr,h.sc,h.ti,h.past,h.rows,h.st⟩
theorem OkS.lateA {s:Scr} (h:OkS s):OkS (lateA s):=h.at h.row h.col nofun
theorem OkS.cells {s:Scr} (h:OkS s) {C:List Qd} (hg:GrOk s.w s.h C):OkS {s with C:=C}:=
 ⟨hg,h.o,h.row,h.col,h.late,h.top,h.pen,h.spen,h.modes,h.p0,h.p1,h.sp0,h.sp1,h.sh,h.ssh,h.sr,h.sc,h.ti,h.past,h.rows,h.st⟩
theorem OkS.set {s:Scr} (h:OkS s) {m:Int} (hm:0≤m∧m≤2047) (on:Bool):OkS (setA s m on):=by
 refine⟨h.g,h.o,h.row,h.col,h.late,h.top,h.pen,h.spen,?_,h.p0,h.p1,h.sp0,h.sp1,h.sh,h.ssh,h.sr,h.sc,h.ti,h.past,h.rows,h.st⟩
 obtain⟨h1,h2⟩:=h.modes
 obtain⟨h3,h4⟩:=hm
 have hx:∀a b:Int,0≤a∧a≤2047→0≤b∧b≤2047→0≤ior a b∧ior a b≤2047:=fun a b ha hb=>by
  rw[A28]
  have:a.toNat|||b.toNat<2 ^ 11:=Nat.or_lt_two_pow (by omega) (by omega)
  omega
 have hy:∀a b:Int,0≤a∧a≤2047→0≤iclr a b∧iclr a b≤2047:=fun a b ha=>by
  rw[Ah0]
  have:a.toNat&&& (18446744073709551615-b.toNat)≤a.toNat:=Nat.and_le_left
  omega
 show 0≤setM s.modes m on∧setM s.modes m on≤2047
 unfold setM
 split
 ·exact hx _ _ (hy _ _ ⟨h1,h2⟩) ⟨h3,h4⟩
 ·exact hy _ _ ⟨h1,h2⟩
theorem OkS.roll {s:Scr} (h:OkS s) (f t n:Int) (ht:t≤s.h):OkS (rollA s f t n):=h.cells (h.g.scroll _ _ _ _ (by omega) (AP9 h.pen))
theorem GrOk.row1 {w h k:Nat} {C:List Qd} (g:GrOk w h C) (hk:k<h):GrOk (rowQ w C k).length 1 (rowQ w C k):=by
 have hl:=j6 (w:=w) (h:=h) (k:=k) (C:=C) hk g.len
 rw[hl]
 refine⟨⟨g.size.1,by decide,by decide⟩,by rw[hl,Nat.mul_one],fun j hj i hi=>?_⟩
 obtain rfl:j=0:=by omega
 have e:rowQ w (rowQ w C k) 0=rowQ w C k:=by
  show ((rowQ w C k).drop (0 * w)).take w=rowQ w C k
  rw[Nat.zero_mul,List.drop_zero,List.take_of_length_le (by rw[hl];exact Nat.le_refl _)]
 rw[e]
 exact g.cell k hk i hi
theorem A27 {p:List (List Qd)} {r:List Qd} (h:p.length≤40):(AF8 p r).length≤40:=by
 unfold AF8
 split
 ·rw[List.length_drop,List.length_append];simp;omega
 ·omega
theorem A82 {p:List (List Qd)} {r x:List Qd} (h:x∈AF8 p r):x∈p∨x=r:=by
 unfold AF8 at h
 have h:x∈p++[r]:=by
  split at h
  ·exact List.mem_of_mem_drop h
  ·exact h
 rcases List.mem_append.1 h with h|h
 ·exact .inl h
 ·exact .inr (List.mem_singleton.1 h)
theorem OkS.push {s:Scr} (h:OkS s):OkS (pushA s):=by
 unfold pushA
 split
 ·refine⟨h.g,h.o,h.row,h.col,h.late,h.top,h.pen,h.spen,h.modes,h.p0,h.p1,h.sp0,h.sp1,h.sh,h.ssh,h.sr,h.sc,h.ti,A27 h.past,fun r hr=>?_,h.st⟩
  rcases A82 hr with h1|rfl
  ·exact h.rows r h1
  ·exact h.g.row1 (by have:=h.row;omega)
 ·exact h
theorem Bj9 (s:Scr):(pushA s).top=s.top∧(pushA s).bot=s.bot∧(pushA s).h=s.h∧(pushA s).w=s.w:=by
 unfold pushA;split<;>exact⟨O,O,O,O⟩
theorem OkS.index {s:Scr} (h:OkS s):OkS (j4 s):=by
 unfold j4
 split
 ·exact h.lateA.push.roll _ _ _ (by rw[(Bj9 _).2.2.1];exact h.top.2.2)
 ·split
  ·exact h.at (by have:=h.row;omega) h.col nofun
  ·exact h.lateA
theorem OkS.rev {s:Scr} (h:OkS s):OkS (revA s):=by
 unfold revA
 split
 ·exact h.lateA.roll _ _ _ h.top.2.2
 ·split
  ·exact h.at (by have:=h.row;omega) h.col nofun
  ·exact h.lateA
theorem OkS.column {s:Scr} (h:OkS s) (c:Int):OkS (colA s c):=by
 have hz:=h.g.size
 have:=AW8 (n:=c) (lo:=0) (hi:=(s.w:Int)-1) (by omega)
 exact h.at h.row (by omega) nofun
theorem OkS.rowTo {s:Scr} (h:OkS s) (r:Int):OkS (rowAt s r):=by
 have hz:=h.g.size
 have ht:=h.top
 unfold rowAt
 split
 ·have:=AW8 (n:=r+s.top) (lo:=s.top) (hi:=s.bot-1) (by omega)
  exact h.at (by omega) h.col h.late
 ·have:=AW8 (n:=r) (lo:=0) (hi:=(s.h:Int)-1) (by omega)
  exact h.at (by omega) h.col h.late
theorem OkS.move {s:Scr} (h:OkS s) (r c:Int):OkS (moveA s r c):=(h.rowTo r).column c
theorem OkS.save {s:Scr} (h:OkS s):OkS (saveA s):=by
 have hz:=h.g.size
 have hr:=h.row
 have hc:=h.col
 exact⟨h.g,h.o,h.row,h.col,h.late,h.top,h.pen,h.pen,h.modes,h.p0,h.p1,h.p0,h.p1,h.sh,h.sh,⟨hr.1,by show s.row≤59;omega⟩,⟨hc.1,by show s.col≤159;omega⟩,h.ti,h.past,h.rows,h.st⟩
theorem OkS.rest {s:Scr} (h:OkS s):OkS (restA s):=by
 have hz:=h.g.size
 have hr:=h.sr
 refine OkS.column (OkS.set ?_ (by decide) _) _
 exact⟨h.g,h.o,⟨by show 0≤min s.sr ((s.h:Int)-1);omega,by show min s.sr ((s.h:Int)-1)<s.h;omega⟩,h.col,h.late,h.top,h.spen,h.spen,h.modes,h.sp0,h.sp1,h.sp0,h.sp1,h.ssh,h.ssh,h.sr,h.sc,h.ti,h.past,h.rows,h.st⟩
theorem OkS.rowsTo {s:Scr} (h:OkS s) {k:Nat} (hk:k<s.h) {M:List Qd} (hM:M.length=s.w) (hc:AV4 M):OkS (AP7 s k (mendQ J2 M)):=by
 have h0:=Bb5 hc
 rw[hM] at h0
 exact h.cells (h.g.putRow hk (by rw[AH0,hM]) h0)
theorem Bp3 {s:Scr} (h:OkS s):celOk (32,0,0,s.pb)=true:=(AL5 _).2 ⟨AP9 h.pen,.inr (by show J2 32≠0;rw[w32];decide)⟩
theorem OkS.fill {s:Scr} (h:OkS s) {r:Int} (hr:0≤r∧r<s.h) (f t:Int):OkS (fillA s r f t):=by
 have hk:r.toNat<s.h:=by omega
 refine h.lateA.rowsTo hk (by rw[AC4];exact j6 hk h.g.len) ?_
 intro q hq
 exact AZ8 (fun x hx=>h.g.cels hk x hx) (fun _ _=>Bp3 h) q hq
theorem OkS.shift {s:Scr} (h:OkS s) (n:Int):OkS (AH7 s n):=by
 have hr:=h.row
 have hk:s.row.toNat<s.h:=by omega
 refine h.rowsTo hk (by rw[AC4];exact j6 hk h.g.len) ?_
 intro q hq
 exact AZ8 (fun x hx=>h.g.cels hk x hx) (fun i _=>Ar9 (fun x hx=>h.g.cels hk x hx) (Bp3 h) (by rw[j6 hk h.g.len];exact Nat.le_refl _) i) q hq
theorem Af9 (c:Int):J2 c=0∨J2 c=1∨J2 c=2:=by
 have h:=BM2 c
 rw[Am9] at h
 omega
theorem OkS.put {s:Scr} (h:OkS s) {c:Int} (hc:J2 c≠0):OkS (putA s c):=by
 have hr:=h.row
 have hk:s.row.toNat<s.h:=by omega
 exact h.rowsTo hk (by rw[A04,j6 hk h.g.len]) (BT1 (h.g.cels hk) h.pen hc)
theorem OkS.go {s:Scr} (h:OkS s) {w:Int} (hw:0≤w):OkS (goA s w):=by
 have hc:=h.col
 unfold goA
 split
 ·exact h.at h.row (by omega) (fun _=>O)
 ·exact h.at h.row (by omega) (fun hl=>by have:=h.late hl;omega)
theorem OkS.ins {s:Scr} (h:OkS s) (w:Int):OkS (insA s w):=by
 unfold insA
 split
 ·exact h.shift w
 ·exact h
theorem OkS.down {s:Scr} (h:OkS s):OkS (downA s):=(h.column 0).index
theorem OkS.print {s:Scr} (h:OkS s) (c:Int):OkS (Ag1 s c):=by
 have h3:∀{s:Scr},OkS s→∀{c:Int},J2 c≠0→OkS (AV2 s c (J2 c)):=fun h c hc=>by
  have:=Af9 c
  exact((h.ins _).put hc).go (by omega)
 unfold Ag1 A63
 split
 ·exact h
 ·rename_i hw
  have hw0:J2 (codeA s c)≠0:=fun e=>hw (.inl e)
  have h2:OkS (if s.late=true then downA s else s):=by split;exact h.down;exact h
  generalize (if s.late=true then downA s else s)=s2 at *
  unfold A18
  split
  ·split
   ·exact h2
   ·exact h3 h2.down hw0
  ·exact h3 h2 hw0
theorem OkS.next {s:Scr} (h:OkS s) (n:Int):OkS (nextA s n):=h.column _
theorem OkS.ctrl {s:Scr} (h:OkS s) (c:Int):OkS (ctrlA s c):=by
 unfold ctrlA
 split
 ·exact h.column _
 split
 ·exact h.next _
 split
 ·split
  ·exact h.index.column _
  ·exact h.index
 split
 ·exact h.column _
 split
 ·exact⟨h.g,h.o,h.row,h.col,h.late,h.top,h.pen,h.spen,h.modes,h.p0,h.p1,h.sp0,h.sp1,by show (0:Int)≤1∧(1:Int)≤1;decide,h.ssh,h.sr,h.sc,h.ti,h.past,h.rows,h.st⟩
 split
 ·exact⟨h.g,h.o,h.row,h.col,h.late,h.top,h.pen,h.spen,h.modes,h.p0,h.p1,h.sp0,h.sp1,by show (0:Int)≤0∧(0:Int)≤1;decide,h.ssh,h.sr,h.sc,h.ti,h.past,h.rows,h.st⟩
 ·exact h
theorem OkS.stops {s:Scr} (h:OkS s) {st:Nat→Nat} (hs:Wf st):OkS {s with st:=st}:=
 ⟨h.g,h.o,h.row,h.col,h.late,h.top,h.pen,h.spen,h.modes,h.p0,h.p1,h.sp0,h.sp1,h.sh,h.ssh,h.sr,h.sc,h.ti,h.past,h.rows,hs⟩
theorem Ai7 {f:Nat→Nat} {c:Nat} (on:Bool) (hf:Wf f) (hc:c<256):Wf (AJ9 f c on):=by
 have h1:=(A43 f c hf hc).2
 unfold AJ9
 split
 ·exact(Aa6 _ c h1 hc).2
 ·exact h1
theorem AU2 {w h:Nat} (hs:(1≤w∧w≤160)∧(1≤h∧h≤60)):OkS (newS w h):=by
 have hp:penB 0 0 0=true:=by decide+kernel
 have g:=GrOk.new hs
 exact⟨g,g,⟨Int.le_refl 0,by show (0:Int)<h;omega⟩,⟨Int.le_refl 0,by show (0:Int)<w;omega⟩,nofun,⟨Int.le_refl 0,by show (0:Int)<h;omega,by show (h:Int)≤h;omega⟩,hp,hp,⟨by show (0:Int)≤12;decide,by show (12:Int)≤2047;decide⟩,⟨by show (1:Int)≤1;decide,by show (1:Int)≤4;decide⟩,⟨by show (1:Int)≤1;decide,by show (1:Int)≤4;decide⟩,⟨by show (1:Int)≤1;decide,by show (1:Int)≤4;decide⟩,⟨by show (1:Int)≤1;decide,by show (1:Int)≤4;decide⟩,⟨by show (0:Int)≤0;decide,by show (0:Int)≤1;decide⟩,⟨by show (0:Int)≤0;decide,by show (0:Int)≤1;decide⟩,⟨by show (0:Int)≤0;decide,by show (0:Int)≤59;decide⟩,⟨by show (0:Int)≤0;decide,by show (0:Int)≤159;decide⟩,by show 0≤256;decide,by show 0≤40;decide,nofun,A23 31 (by decide)⟩
theorem OkS.esc {s:Scr} (h:OkS s) (c:Int):OkS (escA s c):=by
 have hz:=h.g.size
 have hc:=h.col
 unfold escA
 split
 ·exact h.index
 split
 ·exact h.down
 split
 ·exact h.rev
 split
 ·exact h.stops (Ai7 true h.st (by omega))
 split
 ·exact h.save
 split
 ·exact h.rest
 split
 ·exact h.set (by decide) _
 split
 ·exact AU2 hz
 ·exact h
theorem Bx2 {w:Nat} {c x y z:Int} (hp:penB x y z=true) (hc:c≠0) (hw:J2 c=1):rwOk w (List.replicate w (c,x,y,z)):=by
 refine⟨List.length_replicate,fun i hi=>?_⟩
 have e:(List.replicate w ((c,x,y,z):Qd)).getD i qz=(c,x,y,z):=by
  rw[List.getD_eq_getElem?_getD,List.getElem?_replicate,if_pos hi];rfl
 rw[AT8,e]
 refine⟨(AL5 _).2 ⟨hp,.inr (by show J2 c≠0;rw[hw];decide)⟩,?_⟩
 unfold loneB
 rw[e,if_neg hc,decide_eq_false]
 rintro ⟨h,-⟩
 have h:J2 c=2:=h
 rw[hw] at h
 cases h
theorem GrOk.same {w h:Nat} (hs:(1≤w∧w≤160)∧(1≤h∧h≤60)) {c x y z:Int} (hp:penB x y z=true) (hc:c≠0) (hw:J2 c=1):GrOk w h (List.replicate (w * h) (c,x,y,z)):=by
 have e:((List.replicate h (List.replicate w ((c,x,y,z):Qd))).flatten)=List.replicate (w * h) (c,x,y,z):=by
  rw[List.flatten_replicate_replicate,Nat.mul_comm]
 rw[←e]
 exact GrOk.of_rows hs List.length_replicate fun r hr=>by
  rw[(List.mem_replicate.1 hr).2];exact Bx2 hp hc hw
theorem OkS.ee {s:Scr} (h:OkS s):OkS (eeA s):=by
 have hz:=h.g.size
 have hg:GrOk s.w s.h (List.replicate s.C.length (69,0,0,0)):=by
  rw[h.g.len];exact GrOk.same hz (by decide+kernel) (by decide) (by decide+kernel)
 refine OkS.column ?_ _
 exact⟨hg,h.o,⟨by show (0:Int)≤0;decide,by show (0:Int)<s.h;omega⟩,h.col,h.late,⟨by show (0:Int)≤0;decide,by show (0:Int)<s.h;omega,by show (s.h:Int)≤s.h;omega⟩,h.pen,h.spen,h.modes,h.p0,h.p1,h.sp0,h.sp1,h.sh,h.ssh,h.sr,h.sc,h.ti,h.past,h.rows,h.st⟩
theorem BY2 (c:Int):AC2 c=0∨(1≤AC2 c∧AC2 c≤4):=by
 unfold AC2
 repeat' split
 all_goals simp
theorem OkS.page {s:Scr} (h:OkS s) (i:ByteArray) (c:Int):OkS (pageA s i c):=by
 have hp:=BY2 c
 unfold pageA
 split
 ·split
  ·exact h
  ·exact⟨h.g,h.o,h.row,h.col,h.late,h.top,h.pen,h.spen,h.modes,by show 1≤AC2 c∧AC2 c≤4;omega,h.p1,h.sp0,h.sp1,h.sh,h.ssh,h.sr,h.sc,h.ti,h.past,h.rows,h.st⟩
 split
 ·split
  ·exact h
  ·exact⟨h.g,h.o,h.row,h.col,h.late,h.top,h.pen,h.spen,h.modes,h.p0,by show 1≤AC2 c∧AC2 c≤4;omega,h.sp0,h.sp1,h.sh,h.ssh,h.sr,h.sc,h.ti,h.past,h.rows,h.st⟩
 split
 ·exact h.ee
 ·exact h
theorem OkS.up {s:Scr} (h:OkS s) (n:Int):OkS (upA s n):=by
 have ht:=h.top
 have hr:=h.row
 unfold upA
 refine h.at ?_ h.col nofun
 have:=AW8 (n:=s.row-n) (lo:=if 0<n∧s.top≤s.row then s.top else 0) (hi:=if n<0∧s.row<s.bot then s.bot-1 else (s.h:Int)-1) (by split<;>split<;>omega)
 revert this
 split<;>split<;>omega
theorem y7 {P:Scr→Prop} {c:Prop} [Decidable c] {a b:Option Scr} (ha:∀x,a=some x→P x) (hb:∀x,b=some x→P x):∀x,(if c then a else b)=some x→P x:=by
 split
 ·exact ha
 ·exact hb
theorem o9 {P:Scr→Prop} {a:Scr} (h:P a):∀x,some a=some x→P x:=fun _ e=>Option.some.inj e▸h
theorem OkS.curs {s:Scr} (h:OkS s) {c n m:Int}:∀x,cursA s c n m=some x→OkS x:=by
 unfold cursA
 refine y7 (o9 (h.up _)) ?_
 refine y7 (o9 (h.up _)) ?_
 refine y7 (o9 (h.column _)) ?_
 refine y7 (o9 (h.column _)) ?_
 refine y7 (o9 ((h.up _).column _)) ?_
 refine y7 (o9 ((h.up _).column _)) ?_
 refine y7 (o9 (h.column _)) ?_
 refine y7 (o9 (h.move _ _)) ?_
 refine y7 (o9 (h.move _ _)) ?_
 refine y7 (o9 (h.next _)) ?_
 refine y7 (o9 (h.column _)) ?_
 refine y7 (o9 (h.save)) ?_
 refine y7 (o9 (h.rest)) ?_
 exact fun _ e=>absurd e.symm (Option.some_ne_none _)
theorem B97 (s:Scr) (k row:Int) (r:Nat):(wideA s k row r).h=s.h:=by unfold wideA;split<;>rfl
theorem OkS.line {s:Scr} (h:OkS s) (k:Int):OkS (lineA s k):=h.fill h.row _ _
theorem AX7 (s:Scr) (k row:Int) (n:Nat):rowsTo s k row (n+1)=wideA (rowsTo s k row n) k row n:=by
 unfold rowsTo
 rw[List.range_succ,List.foldl_append];rfl
theorem OkS.rowsT {s:Scr} (h:OkS s) (k row:Int):∀n,n≤s.h→OkS (Go.Proofs.YtmmnimagbnlcmaaGreatDoor.rowsTo s k row n)∧(Go.Proofs.YtmmnimagbnlcmaaGreatDoor.rowsTo s k row n).h=s.h
 | 0,_=>⟨h,rfl⟩
 | n+1,hn=>by
   obtain⟨h1,h2⟩:=OkS.rowsT h k row n (by omega)
   rw[AX7]
   refine⟨?_,by rw[B97,h2]⟩
   unfold wideA
   split
   ·exact h1.fill (by omega) _ _
   ·exact h1
theorem OkS.pageJ {s:Scr} (h:OkS s) (k:Int):OkS (pageJ s k):=by
 unfold Go.Proofs.YtmmnimagbnlcmaaGreatDoor.pageJ
 split
 ·exact⟨h.g,h.o,h.row,h.col,h.late,h.top,h.pen,h.spen,h.modes,h.p0,h.p1,h.sp0,h.sp1,h.sh,h.ssh,h.sr,h.sc,h.ti,Nat.zero_le _,nofun,h.st⟩
 split
 ·exact((h.line k).rowsT k s.row s.h (Nat.le_refl _)).1
 ·exact h
theorem OkS.erase {s:Scr} (h:OkS s) {c n k:Int}:∀x,AN4 s c n k=some x→OkS x:=by
 have ht:=h.top
 unfold AN4
 refine y7 (o9 (h.lateA.shift _)) ?_
 refine y7 (o9 (h.lateA.shift _)) ?_
 refine y7 (o9 (h.pageJ _)) ?_
 refine y7 (o9 ?_) ?_
 ·split
  ·exact h.line _
  ·exact h
 refine y7 (o9 (h.fill h.row _ _)) ?_
 refine y7 (o9 ?_) ?_
 ·split
  ·exact(h.roll _ _ _ ht.2.2).column _
  ·exact h
 refine y7 (o9 (h.lateA.roll _ _ _ ht.2.2)) ?_
 refine y7 (o9 (h.lateA.roll _ _ _ ht.2.2)) ?_
 exact fun _ e=>absurd e.symm (Option.some_ne_none _)
theorem OkS.mode {s:Scr} (h:OkS s) (on:Bool) (m:Int):OkS (modeA on s m):=by
 unfold modeA
 split
 ·exact h.set (by decide) _
 split
 ·exact h.set (by decide) _
 ·exact h
theorem AW5 {f:Scr→Int→Scr} (hf:∀s m,OkS s→OkS (f s m)):∀(L:List Int) (s:Scr),OkS s→OkS (L.foldl f s)
 | [],_,h=>h
 | x::L,s,h=>AW5 hf L (f s x) (hf s x h)
theorem Bu4 {t:Tri} {n:Int} (h:penB t.1 t.2.1 t.2.2=true) (hn:0≤n):penB (oneP t n).1 (oneP t n).2.1 (oneP t n).2.2=true:=by
 have hf:=BF3 t n ((AR1 _ _ _).1 h).1
 rw[AR1] at h ⊢
 refine⟨hf,?_⟩
 obtain⟨-,h2,h3⟩:=h
 unfold oneP
 repeat' split
 all_goals (refine⟨?_,?_⟩<;>(first|exact h2|exact h3|(dsimp only;omega)))
theorem Bw3 {t:Tri} {n:Int} {l:List Int} (h:penB t.1 t.2.1 t.2.2=true):penB (Go.Fw.setC t n (extL l).1).1 (Go.Fw.setC t n (extL l).1).2.1 (Go.Fw.setC t n (extL l).1).2.2=true:=by
 have hx:(0≤(extL l).1∧(extL l).1≤256)∨(16777216≤(extL l).1∧(extL l).1<33554432):=by
  unfold extL
  split
  ·dsimp only;omega
  ·split
   ·dsimp only;omega
   ·dsimp only;omega
 rw[AR1] at h ⊢
 obtain⟨h1,h2,h3⟩:=h
 unfold Go.Fw.setC
 split
 ·exact⟨h1,hx,h3⟩
 ·exact⟨h1,h2,hx⟩
theorem At6:∀(k:Nat) (t:Tri) (l:List Int),penB t.1 t.2.1 t.2.2=true→penB (sgrF k t l).1 (sgrF k t l).2.1 (sgrF k t l).2.2=true
 | 0,_,_,h=>h
 | _+1,_,[],h=>h
 | k+1,t,a::r,h=>by
   unfold sgrF
   split
   ·split
    ·exact h
    ·exact At6 k _ _ (Bw3 h)
   ·exact At6 k _ _ (Bu4 h (by omega))
theorem OkS.penA {s:Scr} (h:OkS s) {t:Tri} (ht:penB t.1 t.2.1 t.2.2=true):OkS (penA s t):=
 ⟨h.g,h.o,h.row,h.col,h.late,h.top,ht,h.spen,h.modes,h.p0,h.p1,h.sp0,h.sp1,h.sh,h.ssh,h.sr,h.sc,h.ti,h.past,h.rows,h.st⟩
theorem OkS.sgr {s:Scr} (h:OkS s) (L:List Int):OkS (sgrA s L):=by
 unfold sgrA
 split
 ·exact h
 ·exact h.penA (by unfold sgrL;exact At6 L.length (s.pf,s.pr,s.pb) L h.pen)
theorem BH3 (s:Scr) (b:Int):edgeA s b≤s.h:=by unfold edgeA;split<;>omega
theorem OkS.region {s:Scr} (h:OkS s) {t b:Int} (ht:0≤t∧t<b∧b≤s.h):OkS {s with top:=t,bot:=b}:=
 ⟨h.g,h.o,h.row,h.col,h.late,ht,h.pen,h.spen,h.modes,h.p0,h.p1,h.sp0,h.sp1,h.sh,h.ssh,h.sr,h.sc,h.ti,h.past,h.rows,h.st⟩
theorem wf0:Wf (fun _=>0):=fun _ _=>by show 0<18446744073709551616;omega
theorem OkS.other {s:Scr} (h:OkS s) {c n k:Int} (L:List Int) (hn:1≤n):OkS (AV8 s c n k L):=by
 have hz:=h.g.size
 have hc:=h.col
 unfold AV8
 split
 ·split
  ·exact h.stops (Ai7 _ h.st (by omega))
  ·split
   ·exact h.stops wf0
   ·exact h
 split
 ·exact AW5 (fun s m h=>h.mode _ m) L s h
 split
 ·exact h.sgr L
 split
 ·have he:=BH3 s (getA L 1 0)
  split
  ·exact(h.region (by omega)).move _ _
  ·exact h
 ·exact h
theorem OkS.swap {s:Scr} (h:OkS s):OkS (swapA s):=
 ⟨h.o,h.g,h.row,h.col,h.late,h.top,h.pen,h.spen,h.modes,h.p0,h.p1,h.sp0,h.sp1,h.sh,h.ssh,h.sr,h.sc,h.ti,h.past,h.rows,h.st⟩
theorem Ag5 (s:Scr) (n:Nat):allA s (n+1)=fillA (allA s n) n 0 (allA s n).w:=by
 unfold allA
 rw[List.range_succ,List.foldl_append];rfl
theorem OkS.all {s:Scr} (h:OkS s):∀n,n≤s.h→OkS (allA s n)∧(allA s n).h=s.h
 | 0,_=>⟨h,rfl⟩
 | n+1,hn=>by
   obtain⟨h1,h2⟩:=OkS.all h n (by omega)
   rw[Ag5]
   exact⟨h1.fill (by omega) _ _,h2⟩
theorem OkS.otherOn {s:Scr} (h:OkS s) (on:Bool):OkS (otherOn s on):=by
 unfold Go.Proofs.YtmmnimagbnlcmaaGreatDoor.otherOn
 split
 ·exact h
 split
 ·exact(h.save.swap.all s.h (Nat.le_refl _)).1.set (by decide) _
 ·exact h.swap.rest.set (by decide) _
theorem OkS.priv {s:Scr} (h:OkS s) (on:Bool) (m:Int):OkS (privA on s m):=by
 unfold privA
 repeat' split
 all_goals (first|exact h.set (by decide) _|exact(h.set (by decide) _).move _ _|exact h.otherOn _|exact h)
theorem B92 (L:List Int) (i:Nat):1≤posA L i:=by unfold posA;omega
theorem OkS.seq {s:Scr} (h:OkS s) (c m:Int) (L:List Int):OkS (seqA s c m L):=by
 unfold seqA
 split
 ·split
  ·rename_i x hx;exact h.curs _ hx
  ·split
   ·rename_i x hx;exact h.erase _ hx
   ·exact h.other L (B92 L 0)
 ·split
  ·exact AW5 (fun s m h=>h.priv _ m) L s h
  ·exact h
def actOk (y:Pa):Prop:=y.2.2.2.2.1.length≤32∧(∀x∈y.2.2.2.2.1,-1≤x∧x≤16383)∧y.2.2.2.2.2.size≤256
theorem OkS.tit {s:Scr} (h:OkS s) {t:ByteArray} (ht:t.size≤256):OkS (titA s t):=by
 unfold titA
 split
 ·exact⟨h.g,h.o,h.row,h.col,h.late,h.top,h.pen,h.spen,h.modes,h.p0,h.p1,h.sp0,h.sp1,h.sh,h.ssh,h.sr,h.sc,by show (t.extract 2 t.size).size≤256;rw[ByteArray.size_extract];omega,h.past,h.rows,h.st⟩
 ·exact h
theorem OkS.act {s:Scr} (h:OkS s) {y:Pa} (hy:actOk y):OkS (actA s y):=by
 unfold actA
 repeat' split
 all_goals (first|exact h.print _|exact h.ctrl _|exact h.esc _|exact h.page _ _|exact h.tit hy.2.2|exact h.seq _ _ _|exact h)
theorem A25 (A B:List Pa) (s:Scr):runA s (A++B)=runA (runA s A) B:=List.foldl_append
theorem OkS.run:∀(A:List Pa) {s:Scr},OkS s→(∀y∈A,actOk y)→OkS (runA s A)
 | [],_,h,_=>h
 | y::A,_,h,hy=>OkS.run A (h.act (hy y List.mem_cons_self)) fun z hz=>hy z (List.mem_cons_of_mem _ hz)
end Go.Proofs.YtmmnimagbnlcmaaGreatDoor
namespace Go.Sx
inductive RowE (e:TypeId):Ent→Option Addr→Nat→Nat→List Value→Prop where
 | own (a:Option Addr) (n c:Nat) (xs:List Value):RowE e (.own e 1 a n c xs) a n c xs
 | off (g f n c:Nat) (J xs:List Value) (hJ:J.length=f) (hn:n=xs.length) (h0:0<n):RowE e (.own e 1 (some ⟨g,0,none⟩) (f+n) (f+c) (J++xs)) (some ⟨g,f,none⟩) n c xs
section
variable {P:Program} {G:Ctx} {n:Sz} {ops:Array Oper} {Q:Post} {s:Fm} {H:List Ent} {rest:List Oper} {o:Oper}
theorem RowE.rd {e:TypeId} {X:Ent} {a:Option Addr} {m c:Nat} {xs:List Value} (h:RowE e X a m c xs):RdC G (X::H) a xs:=by
 cases h with
 | own=>exact rdOwn
 | off g f m c J xs hJ hn h0=>
   have h1:Rd G (.own e 1 (some ⟨g,0,none⟩) (f+m) (f+c) (J++xs)::H) (some ⟨g,0,none⟩) (J++xs):=Rd.mem List.mem_cons_self
   have h2:=h1.piece (l:=f) (m:=m) (by rw[List.length_append,hJ,hn];exact Nat.le_refl _)
   have e1:((J++xs).drop f).take m=xs:=by
    rw[←hJ,List.drop_left,hn,List.take_length]
   rw[e1] at h2
   have e2:(some (⟨g,0,none⟩:Addr)).map (·.add f)=some ⟨g,f,none⟩:=by simp [Addr.add_mid]
   rw[e2] at h2
   exact⟨h2⟩
theorem BS6 {x y:Operand} {t e bytes d:Nat} {a a2:Option Addr} {len c c2:Nat} {xs:List Value} {v:Value} {X:Ent} {H':List Ent} (hX:RowE e X a len c xs) (hg:o.guard=none) (ho:o.op= .call {callee:= .builtin .append,args:=#[x,y],argTypes:=#[t,t]})
 [hT:SliceT P t e 1 bytes] (hx:ev s x=some (.slice a len c)) [hp:PickE H X H'] (hy:ev s y=some (.slice a2 1 c2)) [hr:RdC G H a2 [v]] (hv:v.oneCell'=true) (hb:(len+1) * bytes≤140737488355328) (h1d:o.dst=some d) (h2d:Nat.blt d n.n=true)
 (h:∀X' a' c',RowE e X' a' (len+1) c' (xs++[v])→SL P G n ops Q rest ((d,.slice a' (len+1) c')::s) (X'::H')):SL P G n ops Q (o::rest) s H:=by
 cases hX with
 | own=>
   haveI:PickOwn H a e 1 len c xs H':=⟨hp.here⟩
   exact U9 (news:=[v]) hg ho hx hy O (by simp [hv]) hb h1d h2d fun a' c'=>h _ a' c' (.own a' (len+1) c' (xs++[v]))
 | off g f n' c J xs hJ hn h0=>
   intro act w ha hw
   have hd:=okd (n:=n) h1d h2d
   simp only[←updd h1d] at h
   replace hg:Want ops o s:= .inl hg
   have hwp:=hw.pick hp.here
   have hown:w.ownsRow G.B e 1 (.slice (some ⟨g,0,none⟩) (f+len) (f+c)) (f+len) (J++xs):=hwp.ok _ List.mem_cons_self
   obtain⟨hu,hsz,hby,z,hz,hzs⟩:=hT.here
   obtain⟨i0,hi0,hz0,hz1,hz2⟩:=info_parts hz
   obtain⟨b2,off2,rfl,hc2⟩:=At.someAt (hr.here w hw) (by simp)
   have hlen:len+1≤140737488355328:=Nat.le_trans (Nat.le_mul_of_pos_right _ hby) hb
   have hnews:∀j u,[v][j]? =some u→w.cell? ((⟨b2,off2,none⟩:Addr).add j)=some u:=fun j u hj=>by
    rw[Addr.add_mid];exact(hc2 j (List.getElem?_eq_some_iff.1 hj).1).trans hj
   obtain⟨hap,hapH⟩:=List.pairwise_cons.1 hwp.apart
   have hB:G.B≤g:=(World.ownsRow.lt hown (k:=g) rfl).1
   rcases hown.2 with ⟨hno,-⟩|⟨g',cap',cur,hgv,hbg,hh,hnc,hcm,hcs,htake⟩
   ·cases hno
   obtain⟨rfl,rfl⟩:g'=g∧cap'=f+c:=by cases hgv;exact⟨O,O⟩
   rw[Nat.mul_one] at hcs htake
   have hcell0:∀j,w.cell? ⟨g',j,none⟩=cur[j]? :=fun j=>by simp [World.cell?,hh]
   refine wpList_step fun K hK=>?_
   rw[if_pos (hg.wanted ha)]
   unfold Oper.wp execOp
   simp only[ho,resolve,invoke,builtin,Sem.run_bind,Sem.run_pure,Result.andThen_ok,List.map_toArray,List.map_cons,List.map_nil,ha.ev hx,ha.ev hy]
   by_cases hroom:len+1≤c
   ·have hcell:∀j,j<[v].length→(w.cell? ⟨g',f+len * i0.size+j,none⟩).isSome=true:=fun j hj=>by
     simp only[List.length_singleton] at hj
     rw[hz1,hcell0,Array.getElem?_eq_getElem (by omega)];rfl
    have hfz:∀j,j<[v].length→w.frozen? ⟨g',f+len * i0.size+j,none⟩=false:=fun j hj=>by
     simp [World.frozen?,hh]
    have hrun:=run_append_room_cells (P:=P) w t o.type e i0 hu hi0 g' f len c ⟨b2,off2,none⟩ 1 c2 [v] (by rw[hz1];rfl) hnews (by intro u hu;simp at hu;subst hu;exact hv) hroom hcell hfz
    simp only[hrun,Result.andThen_ok]
    have hset:w.setCells g' (f+len * i0.size) [v]=w.setCell ⟨g',f+len,none⟩ v:=by
     rw[hz1,Nat.mul_one];rfl
    rw[hset]
    have hrow:(w.setCell ⟨g',f+len,none⟩ v).heap[g']? =some (.cells (cur.setIfInBounds (f+len) v) e (0,0)):=by
     unfold World.setCell
     simp only[Array.getElem?_modify,if_true,hh,Option.map_some]
     rfl
    have ho2:∀j,j≠g'→(w.setCell ⟨g',f+len,none⟩ v).heap[j]? =w.heap[j]? :=fun j hj=>Below.heap_setCell w _ _ j hj
    have hw':Holds G (.own e 1 (some ⟨g',0,none⟩) (f+(len+1)) (f+c) (J++(xs++[v]))::H') (w.setCell ⟨g',f+len,none⟩ v):=by
     refine⟨hwp.below.setCell hB _,by simpa [World.setCell] using hwp.base,fun z hz=>?_,List.pairwise_cons.2 ⟨fun y hy k hk=>hap y hy k hk,hapH⟩⟩
     rcases List.mem_cons.1 hz with rfl|hz
     ·have hxl:(J++xs).length=f+len:=by rw[List.length_append,hJ,hn]
      refine⟨by rw[List.length_append,List.length_append,hJ,←hn];simp,.inr ⟨g',f+c,_,rfl,hbg,hrow,by omega,hcm,by simp [hcs],?_⟩⟩
      rw[Nat.mul_one,←List.append_assoc,←htake]
      have h3:f+len<cur.toList.length:=by rw[Array.length_toList,hcs];omega
      have e1:(cur.setIfInBounds (f+len) v).toList=cur.toList.set (f+len) v:=by simp
      rw[e1,show f+(len+1)=f+len+1 from rfl,List.take_add_one,List.take_set_of_le (Nat.le_refl _),List.getElem?_set_self h3]
      rfl
     ·exact Ent.ok_of (hwp.ok z (List.mem_cons_of_mem _ hz)) fun j hj=>ho2 j (fun e=>hap z hz g' O (e▸hj))
    exact hK _ _ (h _ (some ⟨g',f,none⟩) c (.off g' f (len+1) c J (xs++[v]) hJ (by simp [hn]) (Nat.succ_pos _)) _ _ (ha.put _ _ hd) hw')
   ·have hcu:∀j u,xs[j]? =some u→w.cell? ((⟨g',f,none⟩:Addr).add j)=some u:=fun j u hj=>by
     have hjl:=(List.getElem?_eq_some_iff.1 hj).1
     have h5:=congrArg (fun l:List Value=>l[f+j]?) htake
     rw[List.getElem?_take_of_lt (by omega),List.getElem?_append_right (by omega),hJ,Nat.add_sub_cancel_left] at h5
     rw[Addr.add_mid,hcell0,←Array.getElem?_toList,h5]
     exact hj
    obtain⟨v',w',hrun,r1,r2⟩:=run_append_arg_grows (P:=P) w t o.type e i0 z 1 bytes hu hi0 hz0 hz1 hz2 hzs (by decide) ⟨g',f,none⟩ len c xs (by omega) hcu ⟨b2,off2,none⟩ 1 c2 [v] rfl hnews (by omega) (by unfold maxLen;omega) hb
    simp only[hrun,Result.andThen_ok]
    rcases r1.2 with ⟨-,h0⟩|⟨g1,cap,cur1,rfl,hbg1,hcells,hnc1,hcm1,hcs1,htake1⟩
    ·omega
    ·have hw1:Holds G H' w':=hwp.drop.stepped none r2 (fun k hk=>by cases hk) (fun x hx k hk e=>by cases e)
     refine hK _ _ (h _ (some ⟨g1,0,none⟩) cap (.own _ (len+1) cap (xs++[v])) _ _ (ha.put _ _ hd) ?_)
     refine⟨hw1.below,hw1.base,fun x hx=>?_,List.pairwise_cons.2 ⟨fun y hy k hk=>?_,hw1.apart⟩⟩
     ·rcases List.mem_cons.1 hx with rfl|hx
      ·exact⟨r1.1,.inr ⟨g1,cap,cur1,O,Nat.le_trans hwp.base hbg1,hcells,hnc1,hcm1,hcs1,htake1⟩⟩
      ·exact hw1.ok x hx
     ·intro hyk
      have e1:k=g1:=by simp only[Ent.key,Value.ownBlock,Option.some.injEq] at hk;exact hk.symm
      have:=(Ent.ok_lt (hwp.drop.ok y hy) hyk).2
      omega
theorem Bt2 {x:Operand} {t e bytes d m c:Nat} {lo:Option Operand} {a:Option Addr} {xs:List Value} {X:Ent} {H':List Ent} (hX:RowE e X a (m+1) c xs) (hm:0<m) (hxl:xs.length=m+1) (hg:o.guard=none) (ho:o.op= .slice t x lo none none) [hT:SliceT P t e 1 bytes] (hx:ev s x=some (.slice a (m+1:Nat) c)) [hp:PickE H X H'] (hlo:bnd s 0 lo=some 1) (h1d:o.dst=some d) (h2d:Nat.blt d n.n=true)
 (h:∀X' a',RowE e X' a' m (c-1) (xs.drop 1)→SL P G n ops Q rest ((d,.slice a' m (c-1))::s) (X'::H')):SL P G n ops Q (o::rest) s H:=fun act w ha hw=>by
 have hwp:=hw.pick hp.here
 cases hX with
 | own=>
   obtain⟨g,rfl,hc⟩:=Ab0 hwp List.mem_cons_self (Nat.succ_pos m)
   have hO:offO 0 (1:Int).toNat c 1=1:=by unfold offO;rw[if_neg (show ¬c=(1:Int).toNat from by show ¬c=1;omega)];rfl
   refine AA2 hg (Ae7 hO ho hx hlo (show bnd s (m+1) none=some ((m+1:Nat):Int) from rfl) (by decide) (by omega) (by omega)) h1d h2d (AO9 (H':= .own e 1 (some ⟨g,0,none⟩) (1+m) (1+(c-1)) (xs.take 1++xs.drop 1)::H') (fun w hw=>?_) ?_) act w ha hw
   ·rw[Nat.add_comm 1 m,show 1+(c-1)=c from by omega,List.take_append_drop]
    exact hw.pick hp.here
   ·have e1:((m+1:Nat):Int).toNat-(1:Int).toNat=m:=by omega
    have e2:c-(1:Int).toNat=c-1:=rfl
    rw[e1,e2]
    exact h _ _ (.off g 1 m (c-1) (xs.take 1) (xs.drop 1) (by rw[List.length_take];omega) (by rw[List.length_drop];omega) hm)
 | off g f _ c J xs hJ hn h0=>
   have hcap:CapC G (Ent.own e 1 (some ⟨g,0,none⟩) (f+(m+1)) (f+c) (J++xs)::H') (some ⟨g,0,none⟩) (f+(m+1)) (f+c):=inferInstance
   have hc:=hcap.here w hwp
   have hO:offO f (1:Int).toNat c 1=f+1:=by unfold offO;rw[if_neg (show ¬c=(1:Int).toNat from by show ¬c=1;omega)];rfl
   refine AA2 hg (Ae7 hO ho hx hlo (show bnd s (m+1) none=some ((m+1:Nat):Int) from rfl) (by decide) (by omega) (by omega)) h1d h2d (AO9 (H':= .own e 1 (some ⟨g,0,none⟩) (f+1+m) (f+1+(c-1)) ((J++xs.take 1)++xs.drop 1)::H') (fun w hw=>?_) ?_) act w ha hw
   ·rw[show f+1+m=f+(m+1) from by omega,show f+1+(c-1)=f+c from by omega,List.append_assoc,List.take_append_drop]
    exact hw.pick hp.here
   ·have e1:((m+1:Nat):Int).toNat-(1:Int).toNat=m:=by omega
    have e2:c-(1:Int).toNat=c-1:=rfl
    rw[e1,e2]
    exact h _ _ (.off g (f+1) m (c-1) (J++xs.take 1) (xs.drop 1) (by rw[List.length_append,List.length_take,hJ];omega) (by rw[List.length_drop];omega) hm)
end
end Go.Sx
namespace Go.Proofs.YtmmnimagbnlcmaaGreatDoor
section
attribute [local irreducible] SW SL SQ AtQ SV SC BB LD PK Yields SO SOT SOA SY SP SPT SPA
variable (G:Ctx) (H:List Ent) (s:Scr) (tb:Nat) (ga:Option Addr) (gn gc:Nat) (oa:Option Addr) (on oc:Nat) (pa:Option Addr) (pn pc:Nat) (t:ByteArray)
theorem AJ1 (m:Int) (hm:0≤m∧m≤2047) (cs:List Value) (modes:Int) (h1:0≤modes∧modes≤2047) (b:Bool) (hb:(iand modes m !=0)=b) (_:HasBlk H tb 158 cs) (hc:cs[11]? =some (.int .i64 modes)):SV Tryz.prog G 154 [.pointer (some ⟨tb,0,none⟩),.int .i64 m] H (.bool b):=by
 subst hb
 exact B19 G H tb cs modes m h1 hm hc
theorem Ax0 (h:OkS s) (r c:Int) (hr: -100000≤r∧r≤100000):SC Tryz.prog G 213 [.pointer (some ⟨tb,0,none⟩),.int .i64 r,.int .i64 c] (.blk tb 158 (trmC s ga gn gc oa on oc pa pn pc t)::H) fun v H'=>v=resV []∧H'= .blk tb 158 (trmC (moveA s r c) ga gn gc oa on oc pa pn pc t)::H:=by
 have hz:=h.g.size
 have ht:=h.top
 have cL:=fun H n lo hi=>Ak4 G H n lo hi
 have cI:=fun (H:List Ent) (cs:List Value) (b:Bool) (hb:onA s 2=b)=>AJ1 G H tb 2 (by decide) cs s.modes h.modes b hb
 have cC:=fun H=>AP0 G H (rowAt s r) c tb ga gn gc oa on oc pa pn pc t (by show (rowAt s r).w≤1000;unfold rowAt;split<;>(show s.w≤1000;omega))
 unfold moveA
 cases hb:onA s 2
 ·rw[show rowAt s r={s with row:=AI7 r 0 ((s.h:Int)-1)} from by unfold rowAt;rw[hb];rfl] at cC ⊢
  unfold trmC at cC ⊢
  refine U4 Tryz.func213 O O O O O ?_
  repeat' (first|(apply E8;first|(apply A8;refine A9 ?_)|(apply C8;refine D7 O O ?_)|(apply E5;refine F7 O O O ?_;apply U8;refine V4 ⟨by omega,by omega⟩ ?_)|(apply F5;refine F8 O O ?_;refine F4 O ?_)|(apply G6;refine G7 (D8 O O) O ?_)|(apply I9;refine J7 (F6 O O) O ?_)|(apply H5;first|refine H6 O O O (cL _ _ _ _) O O ?_ |refine H6 O O O (cI _ _ _ hb inferInstance O) O O ?_ |(refine c_call O O O (cC _) O O ?_;rintro _ _ ⟨rfl,rfl⟩))|(apply H8;refine M9 O O O O O O O ?_))|(apply D6)|(apply A7)|(refine G5 O ?_;apply H7)|(apply C9))
  exact I8 _ (by (exact .inl O)) O (fun _ hw=>hw) ⟨O,O⟩
 ·rw[show rowAt s r={s with row:=AI7 (r+s.top) s.top (s.bot-1)} from by unfold rowAt;rw[hb];rfl] at cC ⊢
  unfold trmC at cC ⊢
  refine U4 Tryz.func213 O O O O O ?_
  repeat' (first|(apply E8;first|(apply A8;refine A9 ?_)|(apply C8;refine D7 O O ?_)|(apply F5;refine F8 O O ?_;refine F4 O ?_)|(apply H5;first|refine H6 O O O (cL _ _ _ _) O O ?_ |refine H6 O O O (cI _ _ _ hb inferInstance O) O O ?_ |(refine c_call O O O (cC _) O O ?_;rintro _ _ ⟨rfl,rfl⟩))|(apply H8;refine M9 O O O O O O O ?_))|(apply Q0;refine N8 (k:=0) J3 ?_)|(apply U3;first|(refine L8 O ?_)|(refine O4 O O O O (by kernel_rfl) (by decide+kernel) (by decide+kernel) ?_;first|(apply O1;refine G9 (P9 O O) ?_)|(apply AG6;refine AG7 O O ?_;first|(apply K9;refine L6 ⟨by omega,by omega⟩ ?_)|(apply U8;refine V4 ⟨by omega,by omega⟩ ?_))|(apply M3;refine G9 (D8 O O) ?_)|(apply R5;refine G9 (F6 O O) ?_))|(refine O5 O ?_)|(refine N9 (by decide+kernel) ?_)|(refine Q6 (by kernel_rfl) ?_))|(apply V3;first|(refine Q5 O)|(refine U1 (by decide+kernel) ?_)|(refine Q3 O ?_ ?_))|(apply D6)|((fail_if_success (refine J5 (id:=1) ?_));apply A7)|(refine G5 O ?_;apply I1)|(apply C9)|(refine J5 (id:=1) ?_;refine q8 (b:=tb) ?_))
  repeat' (fail)
  all_goals exact I8 _ (by (exact .inl O)) O (fun _ hw=>hw) ⟨O,O⟩
theorem Ax2 (h:OkS s):SC Tryz.prog G 161 [.pointer (some ⟨tb,0,none⟩)] (.blk tb 158 (trmC s ga gn gc oa on oc pa pn pc t)::H) fun v H'=>v=resV []∧H'= .blk tb 158 (trmC (saveA s) ga gn gc oa on oc pa pn pc t)::H:=by
 have cI:=fun (H:List Ent) (cs:List Value) (b:Bool) (hb:onA s 2=b)=>AJ1 G H tb 2 (by decide) cs s.modes h.modes b hb
 unfold trmC
 refine Z0 Tryz.func161 O O O O O ?_
 refine AE0 32 _ H (fun _ hw=>hw) O ?_
 repeat' (first|(apply E8;first|(apply A8;refine A9 ?_)|(apply H5;refine H6 O O O (cI _ _ _ O inferInstance O) O O ?_)|(apply H8;refine AH2 O O O O O O O O O ?_))|(apply Q0;refine N8 (k:=0) J3 ?_)|(apply AN7;refine AK7 (k:=0) J3 ?_)|(apply U3;first|(refine L8 O ?_)|(refine N9 (by decide+kernel) ?_))|(apply AL2;first|(refine AH9 O ?_)|(refine AC5 O O O O (by kernel_rfl) (by decide+kernel) (by decide+kernel) (by decide+kernel) ?_;first|(apply O1;refine G9 (P9 O O) ?_)|(apply R9;refine R6 O ?_;first|refine F4 O ?_ |refine O9 O O ?_)|(apply M3;refine G9 (D8 O O) ?_)|(apply AM5;refine G9 (Q9 O O O) ?_)|(apply R5;refine G9 (F6 O O) ?_))|(refine AC9 O ?_)|(refine AE2 (by kernel_rfl) ?_))|(apply AL3;first|(refine AE1 O)|(refine AH6 (by decide+kernel) ?_)|(refine AH3 O O ?_ ?_)|(refine AK8 O O ?_ ?_)))
 all_goals exact I8 _ (by (exact .inl O)) O (fun _ hw=>hw) ⟨O,O⟩
theorem Ax1 (h:OkS s):SC Tryz.prog G 162 [.pointer (some ⟨tb,0,none⟩)] (.blk tb 158 (trmC s ga gn gc oa on oc pa pn pc t)::H) fun v H'=>v=resV []∧H'= .blk tb 158 (trmC (restA s) ga gn gc oa on oc pa pn pc t)::H:=by
 have hz:=h.g.size
 have hr:=h.sr
 have cS:=fun H=>As4 G H {s with row:=min s.sr ((s.h:Int)-1),pf:=s.spf,pr:=s.spr,pb:=s.spb,p0:=s.sp0,p1:=s.sp1,sh:=s.ssh} 2 s.so tb ga gn gc oa on oc pa pn pc t h.modes (by decide)
 have cC:=fun H=>AP0 G H (backA s) s.sc tb ga gn gc oa on oc pa pn pc t (by show s.w≤1000;omega)
 have hR:restA s=colA (backA s) s.sc:=rfl
 rw[hR]
 have hB:∀c,trmC (colA (backA s) c) ga gn gc oa on oc pa pn pc t=trmC (colA (backA s) c) ga gn gc oa on oc pa pn pc t:=fun _=>rfl
 change ∀H,SC _ _ _ _ _ fun v H'=>v=resV []∧H'= .blk tb 158 (trmC (colA (backA s) s.sc) ga gn gc oa on oc pa pn pc t)::H at cC
 generalize trmC (colA (backA s) s.sc) ga gn gc oa on oc pa pn pc t=cs2 at *
 change ∀H,SC _ _ _ _ _ fun v H'=>v=resV []∧H'= .blk tb 158 (trmC (backA s) ga gn gc oa on oc pa pn pc t)::H at cS
 generalize trmC (backA s) ga gn gc oa on oc pa pn pc t=cs1 at *
 unfold trmC at cS ⊢
 dsimp only at cS
 clear hB hR
 refine Z0 Tryz.func162 O O O O O ?_
 repeat' (first|(apply E8;first|(apply A8;refine A9 ?_)|(apply C8;refine D7 O O ?_)|(apply F5;refine F8 O O ?_;refine O9 O O ?_)|(apply G6;refine G7 (D8 O O) O ?_)|(apply I9;refine J7 (F6 O O) O ?_)|(apply H8;refine Q8 O O O O O O O O ?_)|(apply O6;refine Q4 O O O O (fun _=>?_)))|(apply D6)|((fail_if_success (refine J5 (id:=1) ?_));apply A7)|(apply C9))
 repeat' (first|(apply E8;first|(apply A8;refine A9 ?_)|(apply F5;refine F8 O O ?_;refine F4 O ?_)|(apply K5;refine s_call (Bb2 O O O) O ?_)|(apply H8;refine M9 O O O O O O O ?_))|(apply Q0;refine N8 (k:=0) J3 ?_)|(apply U3;first|(refine L8 O ?_)|(refine O4 O O O O (by kernel_rfl) (by decide+kernel) (by decide+kernel) ?_;first|(apply O1;refine G9 (P9 O O) ?_)|(apply AG6;refine AG7 O O ?_;apply U8;refine V4 ⟨by omega,by omega⟩ ?_)|(apply R9;refine R6 O ?_;refine F4 O ?_)|(apply M3;refine G9 (D8 O O) ?_)|(apply R5;refine G9 (F6 O O) ?_))|(refine O5 O ?_)|(refine N9 (by decide+kernel) ?_)|(refine Q6 (by kernel_rfl) ?_))|(apply V3;first|(refine Q5 O)|(refine U1 (by decide+kernel) ?_)|(refine Q3 O ?_ ?_))|(apply D6)|(apply C9)|(refine J5 (id:=1) ?_;refine q8 (b:=tb) ?_))
 repeat' (first|(apply E8;first|(apply A8;refine A9 ?_)|(apply H8;first|refine M9 O O O O O O O ?_ |refine AH2 O O O O O O O O O ?_))|(apply Q0;refine N8 (k:=0) J3 ?_)|(apply U3;first|(refine L8 O ?_)|(refine O4 O O O O (by kernel_rfl) (by decide+kernel) (by decide+kernel) ?_;first|(apply O1;refine G9 (P9 O O) ?_)|(apply R9;refine R6 O ?_;first|refine F4 O ?_ |refine O9 O O ?_)|(apply M3;refine G9 (D8 O O) ?_)|(apply R5;refine G9 (F6 O O) ?_))|(refine O5 O ?_)|(refine N9 (by decide+kernel) ?_)|(refine Q6 (by kernel_rfl) ?_))|(apply V3;first|(refine Q5 O)|(refine U1 (by decide+kernel) ?_)|(refine Q3 O ?_ ?_))|(apply D6)|(apply C9)|(refine J5 (id:=2) ?_;refine q8 (b:=tb) ?_))
 all_goals repeat' (first|(apply E8;first|(apply A8;refine A9 ?_)|(apply C8;refine D7 O O ?_)|(apply F5;refine F8 O O ?_;refine F4 O ?_)|(apply G6;refine G7 (D8 O O) O ?_)|(apply H5;first|(refine c_call O O O (cS _) O O ?_;rintro _ _ ⟨rfl,rfl⟩)|(refine c_call O O O (o7 PickBlk.here (cC _)) O O ?_;rintro _ _ ⟨rfl,rfl⟩)))|(apply A7)|(apply C9))
 all_goals exact I8 (.blk tb 158 cs2::H) (by (exact .inl O)) O J3 ⟨O,O⟩
theorem Bs4 (h:OkS s) (n:Int) (hn: -20000≤n∧n≤20000):SC Tryz.prog G 212 [.pointer (some ⟨tb,0,none⟩),.int .i64 n] (.blk tb 158 (trmC s ga gn gc oa on oc pa pn pc t)::H) fun v H'=>v=resV []∧H'= .blk tb 158 (trmC (upA s n) ga gn gc oa on oc pa pn pc t)::H:=by
 have hz:=h.g.size
 have ht:=h.top
 have hr:=h.row
 have cL:=fun H n lo hi=>Ak4 G H n lo hi
 unfold upA
 by_cases h1:0<n
 ·have e2:¬(n<0∧s.row<s.bot):=by omega
  rw[if_neg e2]
  by_cases h2:s.top≤s.row
  ·rw[if_pos ⟨h1,h2⟩]
   unfold trmC
   refine I7 Tryz.func212 O O O O O ?_
   repeat' (first|(apply E8;first|(apply A8;refine A9 ?_)|(apply C8;refine D7 O O ?_)|(apply E5;refine F7 O O O ?_;apply U8;refine V4 ⟨by omega,by omega⟩ ?_)|(apply F5;refine F8 O O ?_;refine F4 O ?_)|(apply D5;refine D9 O O ?_)|(apply G6;refine G7 (D8 O O) O ?_)|(apply I9;refine J7 (F6 O O) O ?_)|(apply H5;refine H6 O O O (cL _ _ _ _) O O ?_)|(apply H8;refine M9 O O O O O O O ?_))|(apply u7;first|(apply Y3;refine Y2 ?_)|(apply Y8;refine j5 O O ?_)|(apply AA5;refine AC8 O O O ?_;first|(apply U8;refine V4 ⟨by omega,by omega⟩ ?_)|refine F9 O ?_)|(apply V8;refine Y4 O O ?_;refine F4 O ?_)|(apply Y1;refine Z7 O O ?_)|(apply AU5;refine AZ6 O O ?_;first|(apply P7;refine P6 O ?_)|(apply M6;refine M7 O ?_))|(apply V9;refine X9 (D8 O O) O ?_)|(apply p8;refine AA0 (F6 O O) O ?_)|(apply AQ6;refine Ah1 O O O O ?_;first|(apply I1)|(apply H7)|(apply E9<;>intro hq<;>(try (exfalso;omega)))))|(apply D6)|(apply G8)|(apply A7)|(refine G5 O ?_;first|(apply H7)|(apply E9<;>intro hq<;>(try (exfalso;omega))))|(apply C9)|refine V6 (by kernel_rfl) ?_)
   all_goals exact I8 _ (by (exact .inl O)) O (fun _ hw=>hw) ⟨O,O⟩
  ·rw[if_neg (by omega)]
   unfold trmC
   refine I7 Tryz.func212 O O O O O ?_
   repeat' (first|(apply E8;first|(apply A8;refine A9 ?_)|(apply C8;refine D7 O O ?_)|(apply E5;refine F7 O O O ?_;apply U8;refine V4 ⟨by omega,by omega⟩ ?_)|(apply F5;refine F8 O O ?_;refine F4 O ?_)|(apply G6;refine G7 (D8 O O) O ?_)|(apply I9;refine J7 (F6 O O) O ?_)|(apply H5;refine H6 O O O (cL _ _ _ _) O O ?_)|(apply H8;refine M9 O O O O O O O ?_))|(apply u7;first|(apply Y3;refine Y2 ?_)|(apply Y8;refine j5 O O ?_)|(apply AA5;refine AC8 O O O ?_;first|(apply U8;refine V4 ⟨by omega,by omega⟩ ?_)|refine F9 O ?_)|(apply V8;refine Y4 O O ?_;refine F4 O ?_)|(apply Y1;refine Z7 O O ?_)|(apply AU5;refine AZ6 O O ?_;first|(apply P7;refine P6 O ?_)|(apply M6;refine M7 O ?_))|(apply V9;refine X9 (D8 O O) O ?_)|(apply p8;refine AA0 (F6 O O) O ?_)|(apply AQ6;refine Ah1 O O O O ?_;first|(apply I1)|(apply H7)|(apply E9<;>intro hq<;>(try (exfalso;omega)))))|(apply D6)|(apply G8)|(apply A7)|(refine G5 O ?_;first|(apply H7)|(apply E9<;>intro hq<;>(try (exfalso;omega))))|(apply C9)|refine V6 (by kernel_rfl) ?_)
   all_goals exact I8 _ (by (exact .inl O)) O (fun _ hw=>hw) ⟨O,O⟩
 ·have e2:¬(0<n∧s.top≤s.row):=by omega
  rw[if_neg e2]
  by_cases h2:n<0∧s.row<s.bot
  ·rw[if_pos h2]
   unfold trmC
   refine I7 Tryz.func212 O O O O O ?_
   repeat' (first|(apply E8;first|(apply A8;refine A9 ?_)|(apply C8;refine D7 O O ?_)|(apply E5;refine F7 O O O ?_;apply U8;refine V4 ⟨by omega,by omega⟩ ?_)|(apply F5;refine F8 O O ?_;refine F4 O ?_)|(apply D5;refine D9 O O ?_)|(apply G6;refine G7 (D8 O O) O ?_)|(apply I9;refine J7 (F6 O O) O ?_)|(apply H5;refine H6 O O O (cL _ _ _ _) O O ?_)|(apply H8;refine M9 O O O O O O O ?_))|(apply u7;first|(apply Y3;refine Y2 ?_)|(apply Y8;refine j5 O O ?_)|(apply AA5;refine AC8 O O O ?_;first|(apply U8;refine V4 ⟨by omega,by omega⟩ ?_)|refine F9 O ?_)|(apply V8;refine Y4 O O ?_;refine F4 O ?_)|(apply Y1;refine Z7 O O ?_)|(apply AU5;refine AZ6 O O ?_;first|(apply P7;refine P6 O ?_)|(apply M6;refine M7 O ?_))|(apply V9;refine X9 (D8 O O) O ?_)|(apply p8;refine AA0 (F6 O O) O ?_)|(apply AQ6;refine Ah1 O O O O ?_;first|(apply I1)|(apply H7)|(apply E9<;>intro hq<;>(try (exfalso;omega)))))|(apply D6)|(apply G8)|(apply A7)|(refine G5 O ?_;first|(apply H7)|(apply E9<;>intro hq<;>(try (exfalso;omega))))|(apply C9)|refine V6 (by kernel_rfl) ?_)
   all_goals exact I8 _ (by (exact .inl O)) O (fun _ hw=>hw) ⟨O,O⟩
  ·rw[if_neg h2]
   unfold trmC
   refine I7 Tryz.func212 O O O O O ?_
   repeat' (first|(apply E8;first|(apply A8;refine A9 ?_)|(apply C8;refine D7 O O ?_)|(apply E5;refine F7 O O O ?_;apply U8;refine V4 ⟨by omega,by omega⟩ ?_)|(apply F5;refine F8 O O ?_;refine F4 O ?_)|(apply G6;refine G7 (D8 O O) O ?_)|(apply I9;refine J7 (F6 O O) O ?_)|(apply H5;refine H6 O O O (cL _ _ _ _) O O ?_)|(apply H8;refine M9 O O O O O O O ?_))|(apply u7;first|(apply Y3;refine Y2 ?_)|(apply Y8;refine j5 O O ?_)|(apply AA5;refine AC8 O O O ?_;first|(apply U8;refine V4 ⟨by omega,by omega⟩ ?_)|refine F9 O ?_)|(apply V8;refine Y4 O O ?_;refine F4 O ?_)|(apply Y1;refine Z7 O O ?_)|(apply AU5;refine AZ6 O O ?_;first|(apply P7;refine P6 O ?_)|(apply M6;refine M7 O ?_))|(apply V9;refine X9 (D8 O O) O ?_)|(apply p8;refine AA0 (F6 O O) O ?_)|(apply AQ6;refine Ah1 O O O O ?_;first|(apply I1)|(apply H7)|(apply E9<;>intro hq<;>(try (exfalso;omega)))))|(apply D6)|(apply G8)|(apply A7)|(refine G5 O ?_;first|(apply H7)|(apply E9<;>intro hq<;>(try (exfalso;omega))))|(apply C9)|refine V6 (by kernel_rfl) ?_)
   all_goals exact I8 _ (by (exact .inl O)) O (fun _ hw=>hw) ⟨O,O⟩
end
structure TmI (G:Ctx) (s:Scr) (gn gc on oc:Nat) (P:Ent) (pa:Option Addr) (pn pc:Nat) (X:List (Rx Qd)) (E:List Ent):Prop where
 p:RowE 119 P pa pn pc (X.map rxV)
 r:RdX qds G E X
 x:X.map (·.2.2)=s.past
 gn':gn=s.C.length
 gc':gn≤gc
 on':on=s.D.length
 oc':on≤oc
 pn':pn=X.length
def TmQ (G:Ctx) (tb:Nat) (t:ByteArray) (s:Scr) (K H:List Ent):Prop:=
 ∃(gb gn gc ob on oc:Nat) (P:Ent) (pa:Option Addr) (pn pc:Nat) (X:List (Rx Qd)) (E:List Ent),H= .blk tb 158 (trmC s (some ⟨gb,0,none⟩) gn gc (some ⟨ob,0,none⟩) on oc pa pn pc t):: .own 97 4 (some ⟨gb,0,none⟩) gn gc (qds s.C):: .own 97 4 (some ⟨ob,0,none⟩) on oc (qds s.D)::P::(E++K)∧TmI G s gn gc on oc P pa pn pc X E
theorem TmQ.cut {G:Ctx} {tb:Nat} {t:ByteArray} {s:Scr} {x:Ent} {K H:List Ent} (h:TmQ G tb t s (x::K) H):TmQ G tb t s K H:=by
 obtain⟨gb,gn,gc,ob,on,oc,P,pa,pn,pc,X,E,rfl,h⟩:=h
 refine⟨gb,gn,gc,ob,on,oc,P,pa,pn,pc,X,E++[x],by rw[List.append_assoc];rfl,h.p,?_,h.x,h.gn',h.gc',h.on',h.oc',h.pn'⟩
 exact h.r.mono fun w hw=>hw.sub (List.sublist_append_left E [x])
theorem TmI.same {G:Ctx} {s s':Scr} {gn gc on oc:Nat} {P:Ent} {pa:Option Addr} {pn pc:Nat} {X:List (Rx Qd)} {E:List Ent} (h:TmI G s gn gc on oc P pa pn pc X E) (h1:s'.C.length=s.C.length) (h2:s'.D.length=s.D.length) (h3:s'.past=s.past):TmI G s' gn gc on oc P pa pn pc X E:=
 ⟨h.p,h.r,h.x.trans h3.symm,h.gn'.trans h1.symm,h.gc',h.on'.trans h2.symm,h.oc',h.pn'⟩
theorem TmQ.blk {P:Program} {G:Ctx} {f:FuncId} {args:List Value} {tb:Nat} {t t':ByteArray} {s s':Scr} {K H:List Ent} {v0:Value} (h:TmQ G tb t s K H) (h1:s'.C=s.C) (h2:s'.D=s.D) (h3:s'.past=s.past)
 (hc:∀(ga:Option Addr) (gn gc:Nat) (oa:Option Addr) (on oc:Nat) (pa:Option Addr) (pn pc:Nat) (H:List Ent),SC P G f args (.blk tb 158 (trmC s ga gn gc oa on oc pa pn pc t)::H) fun v H'=>v=v0∧H'= .blk tb 158 (trmC s' ga gn gc oa on oc pa pn pc t')::H):
 SC P G f args H fun v H'=>v=v0∧TmQ G tb t' s' K H':=by
 obtain⟨gb,gn,gc,ob,on,oc,P,pa,pn,pc,X,E,rfl,h⟩:=h
 refine AA7 (hc _ _ _ _ _ _ _ _ _ _) fun v H'=>?_
 rintro ⟨rfl,rfl⟩
 exact⟨O,gb,gn,gc,ob,on,oc,P,pa,pn,pc,X,E,by rw[h1,h2],h.same (by rw[h1]) (by rw[h2]) h3⟩
theorem TmQ.grid {P:Program} {G:Ctx} {f:FuncId} {args:List Value} {tb:Nat} {t t':ByteArray} {s s':Scr} {K H:List Ent} {v0:Value} (h:TmQ G tb t s K H) (h1:s'.C.length=s.C.length) (h2:s'.D=s.D) (h3:s'.past=s.past)
 (hc:∀(gb gn gc:Nat) (oa:Option Addr) (on oc:Nat) (pa:Option Addr) (pn pc:Nat) (H:List Ent),gn=s.C.length→gn≤gc→SC P G f args (.blk tb 158 (trmC s (some ⟨gb,0,none⟩) gn gc oa on oc pa pn pc t):: .own 97 4 (some ⟨gb,0,none⟩) gn gc (qds s.C)::H) fun v H'=>v=v0∧H'= .blk tb 158 (trmC s' (some ⟨gb,0,none⟩) gn gc oa on oc pa pn pc t'):: .own 97 4 (some ⟨gb,0,none⟩) gn gc (qds s'.C)::H):
 SC P G f args H fun v H'=>v=v0∧TmQ G tb t' s' K H':=by
 obtain⟨gb,gn,gc,ob,on,oc,P,pa,pn,pc,X,E,rfl,h⟩:=h
 refine AA7 (hc _ _ _ _ _ _ _ _ _ _ h.gn' h.gc') fun v H'=>?_
 rintro ⟨rfl,rfl⟩
 exact⟨O,gb,gn,gc,ob,on,oc,P,pa,pn,pc,X,E,by rw[h2],h.same h1 (by rw[h2]) h3⟩
theorem Ab3 {w h f t:Nat} {C:List Qd} (g:GrOk w h C) (n x y z:Int) (ht:t≤h) (hp:penB x y z=true):(scrC C w h f t n (32,x,y,z)).length=C.length:=by
 rw[g.len,(g.scroll n x y z ht hp).len]
section
attribute [local irreducible] SW SL SQ AtQ SV SC BB LD PK Yields SO SOT SOA SY SP SPT SPA
variable (G:Ctx) (tb:Nat) (t:ByteArray)
theorem B27 (H:List Ent) (s:Scr) (h:OkS s) (ga:Option Addr) (gn gc:Nat) (oa:Option Addr) (on oc:Nat) (pa:Option Addr) (pn pc:Nat) (h1:s.row≠s.bot-1):SC Tryz.prog G 153 [.pointer (some ⟨tb,0,none⟩)] (.blk tb 158 (trmC s ga gn gc oa on oc pa pn pc t)::H) fun v H'=>v=resV []∧H'= .blk tb 158 (trmC (j4 s) ga gn gc oa on oc pa pn pc t)::H:=by
 have hz:=h.g.size
 have hr:=h.row
 have ht:=h.top
 unfold j4
 rw[if_neg h1]
 by_cases h2:s.row<(s.h:Int)-1
 all_goals
  (first|rw[if_pos h2]|rw[if_neg h2])
  unfold trmC
  refine Z0 Tryz.func153 O O O O O ?_
  repeat' (first|(apply E8;first|(apply A8;refine A9 ?_)|(apply C8;refine D7 O O ?_)|(apply E5;refine F7 O O O ?_;apply K9;refine L6 ⟨by omega,by omega⟩ ?_)|(apply F5;refine F8 O O ?_;refine F4 O ?_)|(apply G6;refine G7 (D8 O O) O ?_)|(apply I9;refine J7 (F6 O O) O ?_)|(apply H8;refine M9 O O O O O O O ?_))|(apply u7;first|(apply Y3;refine Y2 ?_)|(apply Y8;refine j5 O O ?_)|(apply AA5;refine AC8 O O O ?_;first|(apply U8;refine V4 ⟨by omega,by omega⟩ ?_)|refine F9 O ?_)|(apply V8;refine Y4 O O ?_;refine F4 O ?_)|(apply Y1;refine Z7 O O ?_)|(apply V9;refine X9 (D8 O O) O ?_)|(apply p8;refine AA0 (F6 O O) O ?_))|(apply D6)|(apply G8)|(apply F3)|(apply A7)|(refine G5 O ?_;apply E9<;>intro hq<;>(try (exfalso;omega)))|(apply C9)|(apply H9)|refine V6 (by kernel_rfl) ?_)
  exact I8 _ (by (exact .inl O)) O (fun _ hw=>hw) ⟨O,O⟩
theorem Br6 (K:List Ent) (s:Scr) (h:OkS s) (gb gn gc:Nat) (oa:Option Addr) (on oc:Nat) (pa:Option Addr) (pn pc:Nat) (hgn:gn=s.C.length) (hgc:gn≤gc) (h1:s.row=s.bot-1) (h2:¬(s.top=0∧onA s 256=false)):SC Tryz.prog G 153 [.pointer (some ⟨tb,0,none⟩)] (.blk tb 158 (trmC s (some ⟨gb,0,none⟩) gn gc oa on oc pa pn pc t):: .own 97 4 (some ⟨gb,0,none⟩) gn gc (qds s.C)::K) fun v H'=>v=resV []∧H'= .blk tb 158 (trmC (j4 s) (some ⟨gb,0,none⟩) gn gc oa on oc pa pn pc t):: .own 97 4 (some ⟨gb,0,none⟩) gn gc (qds (j4 s).C)::K:=by
 have hz:=h.g.size
 have hl1:=h.g.len1
 have ht:=h.top
 have cI:=fun (H:List Ent) (cs:List Value) (b:Bool) (hb:onA s 256=b)=>AJ1 G H tb 256 (by decide) cs s.modes h.modes b hb
 have cC:=fun (H:List Ent) (_:HasBlk H tb 158 (trmC {s with late:=false} (some ⟨gb,0,none⟩) gn gc oa on oc pa pn pc t))=>AJ5 G H {s with late:=false} tb (some ⟨gb,0,none⟩) gn gc oa on oc pa pn pc t
 have cS:=fun (H:List Ent)=>AO0 G H s.C gb s.w s.h gn gc s.top.toNat s.bot.toNat 1 0 0 s.pb hgn h.g.len (by rw[hgn];exact hl1) hgc hz.1 hz.2.2 (by omega) (by omega) (by omega)
 rw[Int.toNat_of_nonneg (show 0≤s.top by omega),Int.toNat_of_nonneg (show 0≤s.bot by omega)] at cS
 have e:j4 s=rollA (lateA s) s.top s.bot 1:=by
  have e2:pushA (lateA s)=lateA s:=if_neg h2
  unfold j4
  rw[if_pos h1,e2]
 rw[e]
 unfold rollA lateA
 dsimp only
 generalize scrC s.C s.w s.h s.top.toNat s.bot.toNat 1 (32,0,0,s.pb)=C' at *
 clear e
 unfold trmC at *
 dsimp only at cC
 by_cases h3:s.top=0
 ·have h4:onA s 256=true:=by
   cases hb:onA s 256
   ·exact absurd ⟨h3,hb⟩ h2
   ·rfl
  refine Z0 Tryz.func153 O O O O O ?_
  repeat' (first|(apply E8;first|(apply A8;refine A9 ?_)|(apply C8;refine D7 O O ?_)|(apply E5;refine F7 O O O ?_;refine F9 O ?_)|(apply F5;refine F8 O O ?_;refine F4 O ?_)|(apply I6;refine J4 O O ?_;apply P7;refine P6 O ?_)|(apply G6;refine G7 (D8 O O) O ?_)|(apply X5;refine Z9 (Z8 O O O) O ?_)|(apply I9;refine J7 (F6 O O) O ?_)|(apply H5;refine H6 O O O (cI _ _ _ h4 inferInstance O) O O ?_)|(apply H8;refine M9 O O O O O O O ?_)|(apply I5;refine J9 O O O O ?_;first|(apply I1)|(apply E9<;>intro hq<;>(try (exfalso;omega)))))|(apply u7;first|(apply Y3;refine Y2 ?_)|(apply Y8;refine j5 O O ?_)|(apply AA5;refine AC8 O O O ?_;first|(apply U8;refine V4 ⟨by omega,by omega⟩ ?_)|refine F9 O ?_)|(apply V8;refine Y4 O O ?_;refine F4 O ?_)|(apply Y1;refine Z7 O O ?_)|(apply V9;refine X9 (D8 O O) O ?_)|(apply p8;refine AA0 (F6 O O) O ?_))|(apply D6)|(apply G8)|(apply F3)|((fail_if_success (refine J5 (id:=6) ?_));apply A7)|(refine G5 O ?_;first|(apply H7)|(apply E9<;>intro hq<;>(try (exfalso;omega))))|(apply C9)|((fail_if_success (refine J5 (id:=6) ?_));refine V6 (by kernel_rfl) ?_))
  repeat' (first|(apply E8;first|(apply A8;refine A9 ?_)|(apply H5;first|refine H6 O O O (cC _ inferInstance) O O ?_ |(refine c_call O O O (o7 PickOwn.here (cS _)) O O ?_;rintro _ _ ⟨rfl,rfl⟩)))|(apply Q0;refine N8 (k:=0) J3 ?_)|(apply U3;first|(refine L8 O ?_)|(refine O4 O O O O (by kernel_rfl) (by decide+kernel) (by decide+kernel) ?_;first|(apply O1;refine G9 (P9 O O) ?_)|(apply R9;refine R6 O ?_;first|refine F4 O ?_ |refine O9 O O ?_)|(apply M3;refine G9 (D8 O O) ?_)|(apply R5;refine G9 (F6 O O) ?_))|(refine O5 O ?_)|(refine N9 (by decide+kernel) ?_)|(refine Q6 (by kernel_rfl) ?_))|(apply V3;first|(refine Q5 O)|(refine U1 (by decide+kernel) ?_)|(refine Q3 O ?_ ?_))|(apply H9)|(refine J5 (id:=6) ?_;refine AA6 (a:=some ⟨gb,0,none⟩) ?_))
  all_goals exact I8 (.blk tb 158 _:: .own 97 4 (some ⟨gb,0,none⟩) gn gc (qds C')::K) (.inl O) O J3 ⟨O,O⟩
 ·refine Z0 Tryz.func153 O O O O O ?_
  repeat' (first|(apply E8;first|(apply A8;refine A9 ?_)|(apply C8;refine D7 O O ?_)|(apply E5;refine F7 O O O ?_;refine F9 O ?_)|(apply F5;refine F8 O O ?_;refine F4 O ?_)|(apply I6;refine J4 O O ?_;apply M6;refine M7 O ?_)|(apply G6;refine G7 (D8 O O) O ?_)|(apply I9;refine J7 (F6 O O) O ?_)|(apply H8;refine M9 O O O O O O O ?_)|(apply I5;refine J9 O O O O ?_;first|(apply H7)|(apply E9<;>intro hq<;>(try (exfalso;omega)))))|(apply u7;first|(apply Y3;refine Y2 ?_)|(apply Y8;refine j5 O O ?_)|(apply AA5;refine AC8 O O O ?_;first|(apply U8;refine V4 ⟨by omega,by omega⟩ ?_)|refine F9 O ?_)|(apply V8;refine Y4 O O ?_;refine F4 O ?_)|(apply Y1;refine Z7 O O ?_)|(apply V9;refine X9 (D8 O O) O ?_)|(apply p8;refine AA0 (F6 O O) O ?_))|(apply D6)|(apply G8)|(apply F3)|((fail_if_success (refine J5 (id:=6) ?_));apply A7)|(refine G5 O ?_;first|(apply H7)|(apply E9<;>intro hq<;>(try (exfalso;omega))))|(apply C9)|((fail_if_success (refine J5 (id:=6) ?_));refine V6 (by kernel_rfl) ?_))
  repeat' (first|(apply E8;first|(apply A8;refine A9 ?_)|(apply H5;first|refine H6 O O O (cC _ inferInstance) O O ?_ |(refine c_call O O O (o7 PickOwn.here (cS _)) O O ?_;rintro _ _ ⟨rfl,rfl⟩)))|(apply Q0;refine N8 (k:=0) J3 ?_)|(apply U3;first|(refine L8 O ?_)|(refine O4 O O O O (by kernel_rfl) (by decide+kernel) (by decide+kernel) ?_;first|(apply O1;refine G9 (P9 O O) ?_)|(apply R9;refine R6 O ?_;first|refine F4 O ?_ |refine O9 O O ?_)|(apply M3;refine G9 (D8 O O) ?_)|(apply R5;refine G9 (F6 O O) ?_))|(refine O5 O ?_)|(refine N9 (by decide+kernel) ?_)|(refine Q6 (by kernel_rfl) ?_))|(apply V3;first|(refine Q5 O)|(refine U1 (by decide+kernel) ?_)|(refine Q3 O ?_ ?_))|(apply H9)|(refine J5 (id:=6) ?_;refine AA6 (a:=some ⟨gb,0,none⟩) ?_))
  all_goals exact I8 (.blk tb 158 _:: .own 97 4 (some ⟨gb,0,none⟩) gn gc (qds C')::K) (.inl O) O J3 ⟨O,O⟩
theorem Bs0 (K:List Ent) (s:Scr) (h:OkS s) (gb gn gc:Nat) (oa:Option Addr) (on oc:Nat) (P:Ent) (pa:Option Addr) (pn pc:Nat) (X:List (Rx Qd)) (hgn:gn=s.C.length) (hgc:gn≤gc) (hP:RowE 119 P pa pn pc (X.map rxV)) (hX:X.map (·.2.2)=s.past) (hpn:pn=X.length) (h1:s.row=s.bot-1) (h2:s.top=0∧onA s 256=false):
 SC Tryz.prog G 153 [.pointer (some ⟨tb,0,none⟩)] (.blk tb 158 (trmC s (some ⟨gb,0,none⟩) gn gc oa on oc pa pn pc t):: .own 97 4 (some ⟨gb,0,none⟩) gn gc (qds s.C)::P::K) fun v H'=>∃(P':Ent) (pa':Option Addr) (pc':Nat) (ra:Option Addr) (rc:Nat) (X':List (Rx Qd)),v=resV []∧H'= .blk tb 158 (trmC (j4 s) (some ⟨gb,0,none⟩) gn gc oa on oc pa' X'.length pc' t):: .own 97 4 (some ⟨gb,0,none⟩) gn gc (qds (j4 s).C)::P':: .own 97 4 ra s.w rc (qds (rowQ s.w s.C 0))::K∧RowE 119 P' pa' X'.length pc' (X'.map rxV)∧X'.map (·.2.2)=(j4 s).past∧(∀x∈X',x∈X∨x=(ra,rc,rowQ s.w s.C 0)):=by
 have hz:=h.g.size
 have hl1:=h.g.len1
 have ht:=h.top
 have hpl:pn≤40:=by rw[hpn];have:=congrArg List.length hX;rw[List.length_map] at this;rw[this];exact h.past
 have cI:=fun (H:List Ent) (cs:List Value) (b:Bool) (hb:onA s 256=b)=>AJ1 G H tb 256 (by decide) cs s.modes h.modes b hb
 have cC:=fun (H:List Ent) (pa:Option Addr) (pn pc:Nat) (_:HasBlk H tb 158 (trmC {s with late:=false} (some ⟨gb,0,none⟩) gn gc oa on oc pa pn pc t))=>AJ5 G H {s with late:=false} tb (some ⟨gb,0,none⟩) gn gc oa on oc pa pn pc t
 have cS:=fun (H:List Ent)=>AO0 G H s.C gb s.w s.h gn gc s.top.toNat s.bot.toNat 1 0 0 s.pb hgn h.g.len (by rw[hgn];exact hl1) hgc hz.1 hz.2.2 (by omega) (by omega) (by omega)
 rw[Int.toNat_of_nonneg (show 0≤s.top by omega),Int.toNat_of_nonneg (show 0≤s.bot by omega)] at cS
 have cR:=fun (H:List Ent) {vs:List Value} [RdC G H (some ⟨gb,0,none⟩) vs] (hv:vs=qds s.C)=>By2 G H s.C (some ⟨gb,0,none⟩) s.w s.h gn gc 0 hv hgn (by rw[hgn];exact hl1) hgc (by rw[hgn,h.g.len]) hz.1 (by omega) (by omega)
 have e:j4 s=rollA {s with late:=false,past:=AF8 s.past (rowQ s.w s.C 0)} s.top s.bot 1:=by
  have e2:pushA (lateA s)={s with late:=false,past:=AF8 s.past (rowQ s.w s.C 0)}:=if_pos h2
  unfold j4
  rw[if_pos h1,e2]
 rw[e]
 unfold rollA
 dsimp only
 have hrl:=j6 (w:=s.w) (h:=s.h) (k:=0) (C:=s.C) (by omega) h.g.len
 generalize scrC s.C s.w s.h s.top.toNat s.bot.toNat 1 (32,0,0,s.pb)=C' at *
 generalize hRd:rowQ s.w s.C 0=R at *
 have hlx:(X.map (rxV (α:=Qd))).length=pn:=by rw[List.length_map,hpn]
 have hXl:∀r:Rx Qd,(X++[r]).map (rxV (α:=Qd))=X.map rxV++[rxV r]:=fun r=>by simp
 unfold AF8
 have hpl2:(s.past++[R]).length=pn+1:=by rw[List.length_append,←hX,List.length_map,hpn];rfl
 rw[hpl2]
 clear e
 unfold trmC at *
 dsimp only at cC
 refine Z0 Tryz.func153 O O O O O ?_
 repeat' (first|(apply E8;first|(apply A8;refine A9 ?_)|(apply C8;refine D7 O O ?_)|(apply E5;refine F7 O O O ?_;refine F9 O ?_)|(apply F5;refine F8 O O ?_;refine F4 O ?_)|(apply I6;refine J4 O O ?_;apply P7;refine P6 O ?_)|(apply G6;refine G7 (D8 O O) O ?_)|(apply X5;refine Z9 (Z8 O O O) O ?_)|(apply I9;refine J7 (F6 O O) O ?_)|(apply H5;refine H6 O O O (cI _ _ _ h2.2 inferInstance O) O O ?_)|(apply H8;refine M9 O O O O O O O ?_)|(apply I5;refine J9 O O O O ?_;first|(apply I1)|(apply E9<;>intro hq<;>(try (exfalso;omega)))))|(apply u7;first|(apply Y3;refine Y2 ?_)|(apply Y8;refine j5 O O ?_)|(apply AA5;refine AC8 O O O ?_;first|(apply U8;refine V4 ⟨by omega,by omega⟩ ?_)|refine F9 O ?_)|(apply V8;refine Y4 O O ?_;refine F4 O ?_)|(apply Y1;refine Z7 O O ?_)|(apply V9;refine X9 (D8 O O) O ?_)|(apply p8;refine AA0 (F6 O O) O ?_))|(apply D6)|(apply F3)|((fail_if_success (refine J5 (id:=3) ?_));apply A7)|(refine G5 O ?_;first|(apply I1)|(apply E9<;>intro hq<;>(try (exfalso;omega))))|(apply C9)|((fail_if_success (refine J5 (id:=3) ?_));refine V6 (by kernel_rfl) ?_))
 refine y5 (α:=((Option Addr×Nat)×Option Addr×Nat)×Ent) (fun g=>[(0,.pointer (some ⟨tb,0,none⟩))])
  (fun g=> .blk tb 158 (.int .i64 s.w:: .int .i64 s.h:: .slice (some ⟨gb,0,none⟩) gn gc:: .int .i64 s.row:: .int .i64 s.col:: .bool false:: .int .i64 s.top:: .int .i64 s.bot:: .int .i64 s.pf:: .int .i64 s.pr:: .int .i64 s.pb:: .int .i64 s.modes::
  .int .u64 (s.st 0):: .int .u64 (s.st 1):: .int .u64 (s.st 2):: .int .u64 (s.st 3):: .int .i64 s.p0:: .int .i64 s.p1:: .int .i64 s.sh:: .int .i64 s.sr:: .int .i64 s.sc:: .int .i64 s.spf:: .int .i64 s.spr:: .int .i64 s.spb:: .bool s.so:: .int .i64 s.sp0:: .int .i64 s.sp1:: .int .i64 s.ssh::
  .int .i64 s.w:: .int .i64 s.h:: .slice oa on oc:: .string s.ti:: .slice g.1.2.1 (pn+1:Nat) g.1.2.2:: .string t::[]):: .own 97 4 (some ⟨gb,0,none⟩) gn gc (qds s.C)::g.2:: .own 97 4 g.1.1.1 s.w g.1.1.2 (qds R)::K) (fun g=>RowE 119 g.2 g.1.2.1 (pn+1) g.1.2.2 (X.map rxV++[.slice g.1.1.1 s.w g.1.1.2])) ?_ ?_
 ·repeat' (first|(apply E8;first|(apply A8;refine A9 ?_)|(apply F5;refine F8 O O ?_;first|refine F4 O ?_ |refine O9 O O ?_)|(apply H5;refine c_call O O O (cR _ O) O O ?_;rintro _ _ ⟨ra,rc,rfl,rfl⟩)|(apply K5;refine BS6 hP O O O O O (by omega) O O (fun P2 a2 c2 hP2=>?_))|(apply H8;refine M9 O O O O O O O ?_)|(apply j3;refine AX2 O O O O O O O O O (fun _=>?_)))|(apply Q0;refine N8 (k:=0) J3 ?_)|(apply U3;first|(refine L8 O ?_)|(refine O4 O O O O (by kernel_rfl) (by decide+kernel) (by decide+kernel) ?_;first|(apply O1;refine G9 (P9 O O) ?_)|(apply M3;refine G9 (D8 O O) ?_)|(apply AM5;refine G9 (Q9 O O O) ?_)|(apply R5;refine G9 (F6 O O) ?_))|(refine O5 O ?_)|(refine N9 (by decide+kernel) ?_)|(refine Q6 (by kernel_rfl) ?_))|(apply V3;first|(refine Q5 O)|(refine U1 (by decide+kernel) ?_)|(refine Q3 O ?_ ?_))|(refine J5 (id:=3) ?_;refine Z6 (.own 97 4 (some ⟨gb,0,none⟩) gn gc (qds s.C)::K) J3 ?_))
  all_goals exact J6 (((ra,rc),a2,c2),P2) hP2 Q7 J3
 rintro ⟨⟨⟨ra,rc⟩,a2,c2⟩,P2⟩ hP2
 dsimp only at hP2 ⊢
 have hRx:Value.slice ra s.w rc=rxV ((ra,rc,R):Rx Qd):=by show _=Value.slice ra R.length rc;rw[hrl]
 by_cases h40:40<pn+1
 ·obtain rfl:pn=40:=by omega
  rw[if_pos h40]
  have hl2:(X.map (rxV (α:=Qd))++[Value.slice ra s.w rc]).length=40+1:=by rw[List.length_append,hlx];rfl
  repeat' (first|(apply E8;first|(apply A8;refine A9 ?_)|(apply C8;refine D7 O O ?_)|(apply E5;refine F7 O O O ?_;refine F9 O ?_)|(apply F5;refine F8 O O ?_;refine F4 O ?_)|(apply G6;refine G7 (D8 O O) O ?_)|(apply I9;refine J7 (F6 O O) O ?_)|(apply K5;refine s_call (S9 O O) O ?_)|(apply H8;refine M9 O O O O O O O ?_)|(apply r9;refine Bt2 hP2 (by decide) hl2 O O O O O O (fun P3 a3 hP3=>?_)))|(apply D6)|((fail_if_success (refine J5 (id:=6) ?_));apply A7)|(refine G5 O ?_;apply I1)|(apply C9))
  have hX3:(X.map (rxV (α:=Qd))++[Value.slice ra s.w rc]).drop 1=((X++[((ra,rc,R):Rx Qd)]).drop 1).map rxV:=by
   rw[hRx,←hXl,List.map_drop]
  have hl3:((X++[((ra,rc,R):Rx Qd)]).drop 1).length=40:=by rw[List.length_drop,List.length_append,←hpn];rfl
  rw[hX3] at hP3
  repeat' (first|(apply E8;first|(apply A8;refine A9 ?_)|(apply H5;first|refine H6 O O O (cC _ _ _ _ inferInstance) O O ?_ |(refine c_call O O O (o7 PickOwn.here (cS _)) O O ?_;rintro _ _ ⟨rfl,rfl⟩)))|(apply Q0;refine N8 (k:=0) J3 ?_)|(apply U3;first|(refine L8 O ?_)|(refine O4 O O O O (by kernel_rfl) (by decide+kernel) (by decide+kernel) ?_;first|(apply O1;refine G9 (P9 O O) ?_)|(apply R9;refine R6 O ?_;first|refine F4 O ?_ |refine O9 O O ?_)|(apply M3;refine G9 (D8 O O) ?_)|(apply R5;refine G9 (F6 O O) ?_))|(refine O5 O ?_)|(refine N9 (by decide+kernel) ?_)|(refine Q6 (by kernel_rfl) ?_))|(apply V3;first|(refine Q5 O)|(refine U1 (by decide+kernel) ?_)|(refine Q3 O ?_ ?_))|(apply H9)|(refine J5 (id:=6) ?_;refine AA6 (a:=some ⟨gb,0,none⟩) ?_))
  all_goals
   refine I8 (.blk tb 158 _:: .own 97 4 (some ⟨gb,0,none⟩) gn gc (qds C')::P3:: .own 97 4 ra s.w rc (qds R)::K) (.inl O) O J3 ⟨P3,a3,c2-1,ra,rc,(X++[((ra,rc,R):Rx Qd)]).drop 1,O,by rw[hl3],by rw[hl3];exact hP3,by rw[List.map_drop,List.map_append,hX];rfl,?_⟩
   intro x hx
   rcases List.mem_append.1 (List.mem_of_mem_drop hx) with h|h
   ·exact .inl h
   ·exact .inr (List.mem_singleton.1 h)
 ·rw[if_neg h40]
  repeat' (first|(apply E8;first|(apply A8;refine A9 ?_)|(apply C8;refine D7 O O ?_)|(apply E5;refine F7 O O O ?_;refine F9 O ?_)|(apply F5;refine F8 O O ?_;refine F4 O ?_)|(apply G6;refine G7 (D8 O O) O ?_)|(apply I9;refine J7 (F6 O O) O ?_)|(apply K5;refine s_call (S9 O O) O ?_))|(apply D6)|(apply G8)|((fail_if_success (refine J5 (id:=6) ?_));apply A7)|(refine G5 O ?_;apply E9<;>intro hq<;>(try (exfalso;omega)))|(apply C9))
  have hl3:(X++[((ra,rc,R):Rx Qd)]).length=pn+1:=by rw[List.length_append,←hpn];rfl
  rw[hRx,←hXl] at hP2
  repeat' (first|(apply E8;first|(apply A8;refine A9 ?_)|(apply H5;first|refine H6 O O O (cC _ _ _ _ inferInstance) O O ?_ |(refine c_call O O O (o7 PickOwn.here (cS _)) O O ?_;rintro _ _ ⟨rfl,rfl⟩)))|(apply Q0;refine N8 (k:=0) J3 ?_)|(apply U3;first|(refine L8 O ?_)|(refine O4 O O O O (by kernel_rfl) (by decide+kernel) (by decide+kernel) ?_;first|(apply O1;refine G9 (P9 O O) ?_)|(apply R9;refine R6 O ?_;first|refine F4 O ?_ |refine O9 O O ?_)|(apply M3;refine G9 (D8 O O) ?_)|(apply R5;refine G9 (F6 O O) ?_))|(refine O5 O ?_)|(refine N9 (by decide+kernel) ?_)|(refine Q6 (by kernel_rfl) ?_))|(apply V3;first|(refine Q5 O)|(refine U1 (by decide+kernel) ?_)|(refine Q3 O ?_ ?_))|(apply H9)|(refine J5 (id:=6) ?_;refine AA6 (a:=some ⟨gb,0,none⟩) ?_))
  all_goals
   refine I8 (.blk tb 158 _:: .own 97 4 (some ⟨gb,0,none⟩) gn gc (qds C')::P2:: .own 97 4 ra s.w rc (qds R)::K) (.inl O) O J3 ⟨P2,a2,c2,ra,rc,X++[((ra,rc,R):Rx Qd)],O,by rw[hl3],by rw[hl3];exact hP2,by rw[List.map_append,hX];rfl,?_⟩
   intro x hx
   rcases List.mem_append.1 hx with h|h
   ·exact .inl h
   ·exact .inr (List.mem_singleton.1 h)
theorem A90 (K H:List Ent) (s:Scr) (h:OkS s) (hq:TmQ G tb t s K H):SC Tryz.prog G 153 [.pointer (some ⟨tb,0,none⟩)] H fun v H'=>v=resV []∧TmQ G tb t (j4 s) K H':=by
 have ht:=h.top
 have hlen:(rollA (lateA s) s.top s.bot 1).C.length=s.C.length:=Ab3 h.g _ _ _ _ (by omega) (AP9 h.pen)
 by_cases h1:s.row=s.bot-1
 ·by_cases h2:s.top=0∧onA s 256=false
  ·obtain⟨gb,gn,gc,ob,on,oc,P,pa,pn,pc,X,E,rfl,hi⟩:=hq
   have e:j4 s=rollA {s with late:=false,past:=AF8 s.past (rowQ s.w s.C 0)} s.top s.bot 1:=by
    have e2:pushA (lateA s)={s with late:=false,past:=AF8 s.past (rowQ s.w s.C 0)}:=if_pos h2
    unfold j4
    rw[if_pos h1,e2]
   have hrl:=j6 (w:=s.w) (h:=s.h) (k:=0) (C:=s.C) (by have:=h.g.size;omega) h.g.len
   refine Bv6 (.cons _ (.cons _ (.swap P _ _))) (Bs0 G tb t (.own 97 4 (some ⟨ob,0,none⟩) on oc (qds s.D)::(E++K)) s h gb gn gc (some ⟨ob,0,none⟩) on oc P pa pn pc X hi.gn' hi.gc' hi.p hi.x hi.pn' h1 h2) fun v H'=>?_
   rintro ⟨P',pa',pc',ra,rc,X',rfl,rfl,r1,r2,r3⟩
   refine⟨_,.cons _ (.cons _ (List.perm_middle (l₁:=[P',_]))),O,gb,gn,gc,ob,on,oc,P',pa',X'.length,pc',X',.own 97 4 ra s.w rc (qds (rowQ s.w s.C 0))::E,by rw[e];rfl,r1,?_,r2,?_,hi.gc',by rw[e];exact hi.on',hi.oc',O⟩
   ·refine(hi.r.cons.snoc (x:=(ra,rc,rowQ s.w s.C 0)) (Sl.own (e:=97) (sz:=4) (n:=s.w) (vs:=qds (rowQ s.w s.C 0)) (by simp) O hrl.symm)).sub fun y hy=>?_
    rcases r3 y hy with h|h
    ·exact List.mem_append_left _ h
    ·rw[h];exact List.mem_append_right _ List.mem_cons_self
   ·rw[e,hi.gn'];exact hlen.symm
  ·have e:j4 s=rollA (lateA s) s.top s.bot 1:=by
    have e2:pushA (lateA s)=lateA s:=if_neg h2
    unfold j4
    rw[if_pos h1,e2]
   exact hq.grid (by rw[e];exact hlen) (by rw[e];rfl) (by rw[e];rfl) fun gb gn gc oa on oc pa pn pc H hgn hgc=>Br6 G tb t H s h gb gn gc oa on oc pa pn pc hgn hgc h1 h2
 ·have e:(j4 s).C=s.C∧(j4 s).D=s.D∧(j4 s).past=s.past:=by
   unfold j4
   rw[if_neg h1]
   split<;>exact⟨O,O,O⟩
  exact hq.blk e.1 e.2.1 e.2.2 fun ga gn gc oa on oc pa pn pc H=>B27 G tb t H s h ga gn gc oa on oc pa pn pc h1
theorem B66 (K:List Ent) (s:Scr) (h:OkS s) (gb gn gc:Nat) (oa:Option Addr) (on oc:Nat) (pa:Option Addr) (pn pc:Nat) (hgn:gn=s.C.length) (hgc:gn≤gc):SC Tryz.prog G 159 [.pointer (some ⟨tb,0,none⟩)] (.blk tb 158 (trmC s (some ⟨gb,0,none⟩) gn gc oa on oc pa pn pc t):: .own 97 4 (some ⟨gb,0,none⟩) gn gc (qds s.C)::K) fun v H'=>v=resV []∧H'= .blk tb 158 (trmC (revA s) (some ⟨gb,0,none⟩) gn gc oa on oc pa pn pc t):: .own 97 4 (some ⟨gb,0,none⟩) gn gc (qds (revA s).C)::K:=by
 have hz:=h.g.size
 have hl1:=h.g.len1
 have ht:=h.top
 have hr:=h.row
 have cC:=fun (H:List Ent) (_:HasBlk H tb 158 (trmC {s with late:=false} (some ⟨gb,0,none⟩) gn gc oa on oc pa pn pc t))=>AJ5 G H {s with late:=false} tb (some ⟨gb,0,none⟩) gn gc oa on oc pa pn pc t
 have cS:=fun (H:List Ent)=>AO0 G H s.C gb s.w s.h gn gc s.top.toNat s.bot.toNat (-1) 0 0 s.pb hgn h.g.len (by rw[hgn];exact hl1) hgc hz.1 hz.2.2 (by omega) (by omega) (by omega)
 rw[Int.toNat_of_nonneg (show 0≤s.top by omega),Int.toNat_of_nonneg (show 0≤s.bot by omega)] at cS
 unfold revA
 by_cases h1:s.row=s.top
 ·rw[if_pos h1]
  unfold rollA lateA
  dsimp only
  generalize scrC s.C s.w s.h s.top.toNat s.bot.toNat (-1) (32,0,0,s.pb)=C' at *
  unfold trmC at *
  dsimp only at cC
  refine Z0 Tryz.func159 O O O O O ?_
  repeat' (first|(apply E8;first|(apply A8;refine A9 ?_)|(apply C8;refine D7 O O ?_)|(apply G6;refine G7 (D8 O O) O ?_)|(apply I9;refine J7 (F6 O O) O ?_)|(apply H8;refine M9 O O O O O O O ?_))|(apply u7;first|(apply Y3;refine Y2 ?_)|(apply Y8;refine j5 O O ?_)|(apply AA5;refine AC8 O O O ?_;refine F9 O ?_)|(apply V8;refine Y4 O O ?_;refine F4 O ?_)|(apply Y1;refine Z7 O O ?_)|(apply V9;refine X9 (D8 O O) O ?_)|(apply p8;refine AA0 (F6 O O) O ?_))|(apply D6)|(apply F3)|((fail_if_success (refine J5 (id:=2) ?_));apply A7)|(refine G5 O ?_;apply E9<;>intro hq<;>(try (exfalso;omega)))|(apply C9)|((fail_if_success (refine J5 (id:=2) ?_));refine V6 (by kernel_rfl) ?_))
  repeat' (first|(apply E8;first|(apply A8;refine A9 ?_)|(apply H5;first|refine H6 O O O (cC _ inferInstance) O O ?_ |(refine c_call O O O (o7 PickOwn.here (cS _)) O O ?_;rintro _ _ ⟨rfl,rfl⟩)))|(apply Q0;refine N8 (k:=0) J3 ?_)|(apply U3;first|(refine L8 O ?_)|(refine O4 O O O O (by kernel_rfl) (by decide+kernel) (by decide+kernel) ?_;first|(apply O1;refine G9 (P9 O O) ?_)|(apply R9;refine R6 O ?_;first|refine F4 O ?_ |refine O9 O O ?_)|(apply M3;refine G9 (D8 O O) ?_)|(apply R5;refine G9 (F6 O O) ?_))|(refine O5 O ?_)|(refine N9 (by decide+kernel) ?_)|(refine Q6 (by kernel_rfl) ?_))|(apply V3;first|(refine Q5 O)|(refine U1 (by decide+kernel) ?_)|(refine Q3 O ?_ ?_))|(apply H9)|(refine J5 (id:=2) ?_;refine AA6 (a:=some ⟨gb,0,none⟩) ?_))
  all_goals exact I8 (.blk tb 158 _:: .own 97 4 (some ⟨gb,0,none⟩) gn gc (qds C')::K) (.inl O) O J3 ⟨O,O⟩
 ·rw[if_neg h1]
  clear cS cC
  by_cases h2:0<s.row
  all_goals
   (first|rw[if_pos h2]|rw[if_neg h2])
   try unfold lateA
   unfold trmC
   refine Z0 Tryz.func159 O O O O O ?_
   repeat' (first|(apply E8;first|(apply A8;refine A9 ?_)|(apply C8;refine D7 O O ?_)|(apply E5;refine F7 O O O ?_;first|(apply U8;refine V4 ⟨by omega,by omega⟩ ?_)|refine F9 O ?_)|(apply F5;refine F8 O O ?_;refine F4 O ?_)|(apply D5;refine D9 O O ?_)|(apply G6;refine G7 (D8 O O) O ?_)|(apply I9;refine J7 (F6 O O) O ?_)|(apply H8;refine M9 O O O O O O O ?_))|(apply u7;first|(apply Y3;refine Y2 ?_)|(apply Y8;refine j5 O O ?_)|(apply AA5;refine AC8 O O O ?_;refine F9 O ?_)|(apply V8;refine Y4 O O ?_;refine F4 O ?_)|(apply Y1;refine Z7 O O ?_)|(apply V9;refine X9 (D8 O O) O ?_)|(apply p8;refine AA0 (F6 O O) O ?_))|(apply D6)|(apply G8)|(apply F3)|(apply A7)|(refine G5 O ?_;apply E9<;>intro hq<;>(try (exfalso;omega)))|(apply C9)|(apply H9)|refine V6 (by kernel_rfl) ?_)
   exact I8 _ (by (exact .inl O)) O (fun _ hw=>hw) ⟨O,O⟩
theorem revQ (K H:List Ent) (s:Scr) (h:OkS s) (hq:TmQ G tb t s K H):SC Tryz.prog G 159 [.pointer (some ⟨tb,0,none⟩)] H fun v H'=>v=resV []∧TmQ G tb t (revA s) K H':=by
 have ht:=h.top
 have e:(revA s).C.length=s.C.length∧(revA s).D=s.D∧(revA s).past=s.past:=by
  unfold revA
  split
  ·exact⟨Ab3 h.g _ _ _ _ (by omega) (AP9 h.pen),O,O⟩
  ·split<;>exact⟨O,O,O⟩
 exact hq.grid e.1 e.2.1 e.2.2 fun gb gn gc oa on oc pa pn pc H hgn hgc=>B66 G tb t H s h gb gn gc oa on oc pa pn pc hgn hgc
end
end Go.Proofs.YtmmnimagbnlcmaaGreatDoor
