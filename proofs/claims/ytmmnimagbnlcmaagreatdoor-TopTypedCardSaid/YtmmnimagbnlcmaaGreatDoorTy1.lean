/- Texts of this claim, merged: Base LawBase Base2. -/
import Derived.WalkKit
import Derived.WalkSpells
import Derived.WalkLawsBesides
import Derived.Handy
import Derived.Lib.Hide
import Derived.Laws.BitsAllLaws
import Derived.Deep.MidRow
import Derived.Deep.WholeRow
import Derived.Test.YtmmnimagbnlcmaaGreatDoorRows
import Derived.ProofKit
import Derived.OpenShut
import Derived.JoinedCond
import Derived.SliceStrings
import Derived.BigQuiet
import Derived.Laws.CopyOwn
import Derived.Deep.QuietTactic
theorem Go.Sx.O.{u} {α:Sort u} {a:α}:a=a:=rfl
namespace Go.Fw
end Go.Fw
set_option maxRecDepth 100000
set_option maxHeartbeats 8000000
open Go Go.RowKit Go.Fw Go.Sx
namespace Go.Fw
def At (w:World) (a:Option Addr) (xs:List Value):Prop:=
 xs=[]∨∃b o,a=some ⟨b,o,none⟩∧b<w.heap.size∧∀i,i<xs.length→w.cell? ⟨b,o+i,none⟩=xs[i]?
theorem At.nil (w:World) (a:Option Addr):At w a []:= .inl rfl
theorem At.mono {w w':World} {a:Option Addr} {xs:List Value} (h:At w a xs) (hb:Below w.heap.size w w'):At w' a xs:=by
 rcases h with h|⟨b,o,ha,hlt,hc⟩
 ·exact .inl h
 ·exact .inr ⟨b,o,ha,Nat.lt_of_lt_of_le hlt hb.size,fun i hi=>(hb.cell (p:=⟨b,o+i,none⟩) hlt).trans (hc i hi)⟩
theorem AS5 {a b c:World} (h:Below a.heap.size a b) (k:Below b.heap.size b c):Below a.heap.size a c:=
 h.trans (k.mono h.size)
theorem At.get {w:World} {a:Option Addr} {xs:List Value} (h:At w a xs) (hne:xs≠[]):
 ∃b o,a=some ⟨b,o,none⟩∧b<w.heap.size∧∀i,i<xs.length→w.cell? ⟨b,o+i,none⟩=xs[i]? :=by
 rcases h with h|h
 ·exact absurd h hne
 ·exact h
abbrev ints (xs:List Int):List Value:=xs.map (Value.int .i64)
abbrev octs (xs:List Int):List Value:=xs.map (Value.int .u8)
abbrev strs (xs:List ByteArray):List Value:=xs.map Value.string
theorem At.int {w:World} {a:Option Addr} {k:IntKind} {xs:List Int} (h:At w a (xs.map (Value.int k))) {i:Nat} (hi:i<xs.length):
 ∃b o,a=some ⟨b,o,none⟩∧b<w.heap.size∧∀i,i<xs.length→w.cell? ⟨b,o+i,none⟩=some (.int k (xs.getD i 0)):=by
 obtain⟨b,o,ha,hb,hc⟩:=h.get (by intro e;have:=congrArg List.length e;simp at this;subst this;simp at hi)
 refine⟨b,o,ha,hb,fun i hi=>?_⟩
 rw[hc i (by simpa using hi)]
 simp [List.getD,List.getElem?_eq_getElem hi]
theorem At.str {w:World} {a:Option Addr} {xs:List ByteArray} (h:At w a (strs xs)) {i:Nat} (hi:i<xs.length):
 ∃b o,a=some ⟨b,o,none⟩∧b<w.heap.size∧∀i,i<xs.length→w.cell? ⟨b,o+i,none⟩=some (.string (xs.getD i ByteArray.empty)):=by
 obtain⟨b,o,ha,hb,hc⟩:=h.get (by intro e;have:=congrArg List.length e;simp at this;subst this;simp at hi)
 refine⟨b,o,ha,hb,fun i hi=>?_⟩
 rw[hc i (by simpa using hi)]
 simp [List.getD,List.getElem?_eq_getElem hi]
def AR2 (l:List (Int×Int)):List Value:=l.flatMap fun x=>[.int .i64 x.1,.int .i64 x.2]
theorem A67 (l:List (Int×Int)):(AR2 l).length=l.length * 2:=by
 induction l with
 | nil=>rfl
 | cons x l ih=>simp only[AR2,List.flatMap_cons,List.length_append,List.length_cons,List.length_nil] at ih ⊢;omega
theorem BU4 (l:List (Int×Int)) (k:Nat) (hk:k<l.length):(AR2 l)[k * 2]? =some (.int .i64 (l.getD k (0,0)).1)∧(AR2 l)[k * 2+1]? =some (.int .i64 (l.getD k (0,0)).2):=by
 induction l generalizing k with
 | nil=>simp at hk
 | cons x l ih=>
   cases k with
   | zero=>simp [AR2]
   | succ k=>
     have h:=ih k (by simpa using hk)
     have e:(k+1) * 2=k * 2+2:=by omega
     rw[e]
     simpa [AR2,List.flatMap_cons,List.getD] using h
theorem At.pair {w:World} {a:Option Addr} {l:List (Int×Int)} (h:At w a (AR2 l)) {k:Nat} (hk:k<l.length):
 ∃b o,a=some ⟨b,o,none⟩∧b<w.heap.size∧∀k,k<l.length→w.cell? ⟨b,o+k * 2,none⟩=some (.int .i64 (l.getD k (0,0)).1)∧w.cell? ⟨b,o+k * 2+1,none⟩=some (.int .i64 (l.getD k (0,0)).2):=by
 have hl:=A67 l
 obtain⟨b,o,ha,hb,hc⟩:=h.get (by intro e;rw[e] at hl;simp at hl;omega)
 refine⟨b,o,ha,hb,fun k hk=>?_⟩
 have g:=BU4 l k hk
 exact⟨(hc (k * 2) (by omega)).trans g.1,by rw[Nat.add_assoc];exact(hc (k * 2+1) (by omega)).trans g.2⟩
theorem At.new (w:World) (cs:Array Value) (t:TypeId):At (w.alloc (.cells cs t)) (some ⟨w.heap.size,0,none⟩) cs.toList:=by
 rcases Nat.eq_zero_or_pos cs.size with h|h
 ·left;exact List.eq_nil_of_length_eq_zero (by simpa using h)
 ·right
  refine⟨_,_,O,by simp,fun i hi=>?_⟩
  simp [go_sem]
theorem At.newAt {w:World} {cs:Array Value} {t:TypeId} {b:Nat} {xs:List Value} (hb:b=w.heap.size) (hx:cs.toList=xs):At (w.alloc (.cells cs t)) (some ⟨b,0,none⟩) xs:=by
 subst hb;subst hx;exact At.new _ _ _
theorem At.alloc {w:World} {a:Option Addr} {xs:List Value} (h:At w a xs) (o:Obj):At (w.alloc o) a xs:=h.mono ((Below.refl _ _).alloc (Nat.le_refl _) _)
theorem At.own {w:World} {B:Nat} {e:TypeId} {v:Value} {n:Nat} {xs:List Value} (h:w.ownsRow B e 1 v n xs):
 ∃a c,v= .slice a n c∧At w a xs:=by
 obtain⟨hl,h|⟨g,cap,cur,hv,hg,hh,hn,hm,hs,ht⟩⟩:=h
 ·obtain⟨rfl,rfl⟩:=h
  exact⟨_,_,O,.inl (List.eq_nil_of_length_eq_zero (by simpa using hl))⟩
 ·have hlt:g<w.heap.size:=by
   rcases Nat.lt_or_ge g w.heap.size with h|h
   ·exact h
   ·rw[Array.getElem?_eq_none (by omega)] at hh;cases hh
  refine⟨_,_,hv,.inr ⟨g,0,O,hlt,fun i hi=>?_⟩⟩
  rw[Nat.zero_add]
  have:=World.ownsRow.cellAt (w:=w) (base:=B) (e:=e) (size:=1) (g:=g) (n:=n) (cap:=cap) (xs:=xs) ⟨hl,.inr ⟨g,cap,cur,rfl,hg,hh,hn,hm,hs,ht⟩⟩ i (by omega)
  exact this
theorem x8 {P:Program} {ops:Array Oper} {rest:List Oper} {op:Oper} {a:Act} {W:World} {Q:Exit→Act→World→Prop} (hgd:op.guard=none) (ty:TypeId) (x y:Operand) (ho:op.op= .store ty x y)
 (w:World) (g:Nat) (c c':Array Value) (hW:W=w.alloc (.cells c ty)) (hx:a.eval x= .pointer (some ⟨g,0,none⟩)) (hy:a.eval y= .agg c') (hg:g=w.heap.size)
 (hi:(P.info? ty).map (·.size)=some c'.size) (hs:c.size=c'.size) (h1:c'.all (·.oneCell')=true)
 (h:wpList P ops Q rest (a.put op.dst undef) (w.alloc (.cells c' ty))):wpList P ops Q (op::rest) a W:=by
 subst hW
 subst hg
 refine wpList_plain hgd fun K hK=>?_
 unfold Oper.wp execOp
 simp only[ho,hx,hy,Sem.run_bind,run_storeAt_new (P:=P) w ty c c' hi hs h1,Result.andThen_ok]
 exact hK _ _ h
theorem AE4 {P:Program} {ops:Array Oper} {rest:List Oper} {op:Oper} {a:Act} {w:World} {Q:Exit→Act→World→Prop} (hgd:op.guard=none) (t:TypeId) (parts:Array (Nat×Operand)) (ho:op.op= .build t parts)
 (L:List (Nat×Value)) (cs:Array Value) (hL:parts.toList.map (fun x=>(x.1,a.eval x.2))=L) (hb:P.built t L=some cs)
 (h:wpList P ops Q rest (a.put op.dst (.agg cs)) w):wpList P ops Q (op::rest) a w:=by
 have hL:(parts.map fun (i,x)=>(i,a.eval x)).toList=L:=by rw[Array.toList_map];exact hL
 subst hL
 refine wpList_plain hgd fun K hK=>wp_build t parts ho (by rw[hb];rfl) ?_
 rw[hb]
 exact hK _ _ h
def builtSlice (P:Program) (e:TypeId) (n:Nat) (parts:List (Nat×Value)):Option (Array Value):=
 match P.info? e with
 | none=>none
 | some ie=>match ie.zero with
   | none=>none
   | some z=>if n * ie.size>2 ^ 24∨n * ie.size=0 then none else Instr.fill (fun i=>some (i * ie.size,ie.size)) ((Array.range (n * ie.size)).map (z.cells[· % z.cells.size]!)) parts
theorem run_buildSlice {P:Program} (w:World) (t e:TypeId) (n:Nat) (parts:Array (Nat×Value)) (cs:Array Value) (hu:P.underlying t=some (.slice e)) (h:builtSlice P e n parts.toList=some cs):
 (Instr.buildSlice t n parts).run P w= .ok (.slice (some ⟨w.heap.size,0,none⟩) n n) (w.alloc (.cells cs e)):=by
 unfold builtSlice at h
 cases hi:P.info? e with
 | none=>simp [hi] at h
 | some ie=>
   cases hz:ie.zero with
   | none=>simp [hi,hz] at h
   | some z=>
     simp only[hi,hz] at h
     split at h
     ·cases h
     ·rename_i hn
      have h1:¬(n * ie.size>2 ^ 24):=fun x=>hn (.inl x)
      have h2:¬(n * ie.size=0):=fun x=>hn (.inr x)
      have h1':¬(16777216<n * ie.size):=h1
      simp [Instr.buildSlice,run_underlying hu,sizeOf,typeInfo,zeroValue,hi,hz,h1',h2,h,newRow]
theorem AW9 {P:Program} {ops:Array Oper} {rest:List Oper} {o:Oper} {a:Act} {Q:Exit→Act→World→Prop} {W1:World} (hgd:o.guard=none) (s x:Operand) (t:TypeId)
 (ho:o.op= .call {callee:= .builtin .append,args:=#[s,x],argTypes:=#[t,t]})
 (base:Nat) (e:TypeId) (z:Value) (size bytes:Nat) (ht:P.underlying t=some (.slice e)) (hi:(P.info? e).map (fun i=>(i.zero,i.size,i.bytes))=some (some z,size,bytes))
 (hzs:z.cells.size=size) (hsz:0<size) (hby:0<bytes) {W:World} (v:Value) (n:Nat) (xs:List Value) (hs:a.eval s=v) (hown:W.ownsRow base e size v n xs)
 (g m:Nat) (news:List Value) (hW:W1=W.alloc (.cells news.toArray e)) (hx:a.eval x= .slice (some ⟨g,0,none⟩) m m) (hg:g=W.heap.size) (hl:news.length=m * size)
 (h1:∀u∈news,u.oneCell'=true) (hb:(n+m) * bytes≤140737488355328) (hbase:base≤W.heap.size)
 (h:∀v' w',w'.ownsRow base e size v' (n+m) (xs++news)→Below base W w'→wpList P ops Q rest (a.put o.dst v') w'):wpList P ops Q (o::rest) a W1:=by
 subst hW
 subst hg
 obtain⟨i0,hi0,hz0,hz1,hz2⟩:=info_parts hi
 have hlen:n+m≤140737488355328:=Nat.le_trans (Nat.le_mul_of_pos_right _ hby) hb
 refine wpList_append_own _ hgd s x t ho base e i0 z size bytes ht hi0 hz0 hz1 hz2 hzs hsz v n xs hs (hown.alloc _) ⟨W.heap.size,0,none⟩ m m news hx hl ?_ h1 (by unfold maxLen;omega) hb (by simp;omega) ?_
 ·intro j u hj
  rw[Addr.add_mid,Nat.zero_add,World.cell?_alloc_at _ _ _ _ rfl]
  simpa using hj
 ·intro v' w' hown' hgr _
  refine h v' w' hown' ?_
  refine((Below.refl base W).alloc hbase _).grown hgr (by simp;omega) (fun k hk=>(World.ownsRow.lt hown k hk).1)
theorem AK9 {P:Program} {ops:Array Oper} {rest:List Oper} {o:Oper} {a:Act} {w:World} {Q:Exit→Act→World→Prop} (hgd:o.guard=none) (ty:TypeId) (x:Operand) (ho:o.op= .load ty x)
 (g:Nat) (cs:Array Value) (hx:a.eval x= .pointer (some ⟨g,0,none⟩)) (t:TypeId) (d:TypeDesc) (hg:w.heap[g]? =some (.cells cs t (0,0)))
 (hu:P.underlying ty=some d) (hd:d.isRow=true) (hi:(P.info? ty).map (·.size)=some cs.size)
 (h:wpList P ops Q rest (a.put o.dst (.agg cs)) w):wpList P ops Q (o::rest) a w:=
 wpList_load_row hgd ty x ho g hx t cs (0,0) d hg hu (by cases d<;>simp_all) hi h
theorem _root_.Go.RowKit.Below.row {B:Nat} {w w':World} (h:Below B w w') {g:Nat} {o:Obj} (hg:g<B) (ho:w.heap[g]? =some o):w'.heap[g]? =some o:=(h.block g hg).trans ho
theorem toList_inj {a b:ByteArray} (h:a.toList=b.toList):a=b:=by
 rw[ByteArray.toList_eq,ByteArray.toList_eq] at h
 cases a;cases b
 exact congrArg _ (Array.toList_inj.1 h)
theorem BO0 {a b:ByteArray} (h:¬a=b):(a.toList==b.toList)=false:=by
 rw[beq_eq_false_iff_ne];exact fun e=>h (toList_inj e)
theorem AX9 {k:IntKind} {a b:Int} (h:a=b):Ending.returned (.int k a)= .returned (.int k b):=by rw[h]
theorem AQ5 {a b:Bool} (h:a=b):Ending.returned (.bool a)= .returned (.bool b):=by rw[h]
theorem BK8 {a b c d:Value} (h1:a=c) (h2:b=d):Ending.returned (.tuple #[a,b])= .returned (.tuple #[c,d]):=by rw[h1,h2]
theorem B72 (a b:Int) (h1:0≤a) (h2:a<9223372036854775808) (h3:0≤b) (h4:b<9223372036854775808):bits .or .i64 a b=((a.toNat|||b.toNat:Nat):Int):=by
 obtain⟨m,rfl⟩:=Int.eq_ofNat_of_zero_le h1
 obtain⟨n,rfl⟩:=Int.eq_ofNat_of_zero_le h3
 have hm:(BitVec.ofInt 64 (m:Int)).toNat=m:=ofInt_u64 m (by omega)
 have hn:(BitVec.ofInt 64 (n:Int)).toNat=n:=ofInt_u64 n (by omega)
 have hlt:m|||n<2 ^ 63:=Nat.or_lt_two_pow (by omega) (by omega)
 unfold bits
 show IntKind.i64.wrap (((BitVec.ofInt 64 (m:Int))|||(BitVec.ofInt 64 (n:Int))).toNat:Int)=_
 rw[BitVec.toNat_or,hm,hn,Int.toNat_natCast,Int.toNat_natCast]
 exact IntWalk.i64_in _ (by omega)
theorem Bz8 (a b:Int) (h1:0≤a) (h2:a<9223372036854775808) (h3:0≤b) (h4:b<9223372036854775808):bits .and .i64 a b=((a.toNat&&& b.toNat:Nat):Int):=by
 obtain⟨m,rfl⟩:=Int.eq_ofNat_of_zero_le h1
 obtain⟨n,rfl⟩:=Int.eq_ofNat_of_zero_le h3
 have hm:(BitVec.ofInt 64 (m:Int)).toNat=m:=ofInt_u64 m (by omega)
 have hn:(BitVec.ofInt 64 (n:Int)).toNat=n:=ofInt_u64 n (by omega)
 have hlt:m&&& n<2 ^ 63:=Nat.and_lt_two_pow _ (by omega)
 unfold bits
 show IntKind.i64.wrap (((BitVec.ofInt 64 (m:Int))&&& (BitVec.ofInt 64 (n:Int))).toNat:Int)=_
 rw[BitVec.toNat_and,hm,hn,Int.toNat_natCast,Int.toNat_natCast]
 exact IntWalk.i64_in _ (by omega)
section
open Go.ChangeShapes Go.WideShapes Go.ChangeAt
theorem Ay7 {H:Type} {enc:TypeId×Value→H} {P:Program} (hl:laidOutB P=true) {W W':World} (hb:Below W.heap.size W W'):
 ∀(ts:List TypeId) (vs:List Value) (ds:List (DataW H)) (p:List MemPlace),ts.all (fun t=>P.readableRec t&&decide (t<P.types.size))=true→
  DataW.TrodAll enc P W 0 (fun _=>true) true ts vs ds p→(∀x∈p,x.block<W.heap.size)→
  DataW.TrodAll enc P W' 0 (fun b=>decide (b<W.heap.size)) true ts vs ds p:=by
 intro ts
 induction ts with
 | nil=>
   intro vs ds p _ h _
   obtain⟨rfl,rfl,rfl⟩:=trodAll_nil h
   exact trodAll_mk0
 | cons t ts ih=>
   intro vs ds p ht h hlt
   obtain⟨v,vs',d,ds',p,q,rfl,rfl,rfl,hd,hr⟩:=trodAll_cons h
   simp only[List.all_cons,Bool.and_eq_true,decide_eq_true_eq] at ht
   refine trodAll_cons_mk (Below.trod hl ht.1.1 ht.1.2 hd hb (fun x hx=>hlt x (by simp [hx]))) (ih _ _ _ ht.2 hr (fun x hx=>hlt x (by simp [hx])))
theorem Bi6 {H:Type} {enc:TypeId×Value→H} {P:Program} {f:Func} {s:ChangeSpec} {W W':World} {args:Array Value} {ds gs:List (DataW H)} {before:List MemPlace} {tb:TypeId}
 (hl:laidOutB P=true) (hts:f.params.toList.all (fun t=>P.readableRec t&&decide (t<P.types.size))=true) (hr:f.resultTypes=#[tb]) (htb:P.underlying tb=some .bool) (hv:s.vars=[])
 (hW:DataW.Whole enc P f.params.toList s.vars false W args.toList ds gs before) (hfn:s.fn H (ds++gs)={results:=[.lit (.bool true)],args:=ds}) (hb:Below W.heap.size W W'):
 s.post enc P f false true false false W args (.bool true) W':=by
 have hW':=hW
 obtain⟨p,q,hA,hV,rfl,hfz,hnd⟩:=hW
 have hlt:∀x∈p++q,x.block<W.heap.size:=fun x hx=>hW'.lt x hx
 refine⟨ds,gs,p++q,[],p,q,hW',?_,?_,?_,hb.frame _,fun h=>by cases h⟩
 ·rw[hfn,hr]
  exact trodAll_cons_mk (shut_bool htb _) trodAll_mk0
 ·rw[hfn]
  exact Ay7 hl hb _ _ _ _ hts hA (fun x hx=>hlt x (by simp [hx]))
 ·rw[hfn]
  rw[hv] at hV ⊢
  obtain⟨rfl,rfl⟩:=trodVars_none hV
  rfl
theorem add_plain (b o:Nat) (j:Nat):(⟨b,o,none⟩:Addr).add j=⟨b,o+j,none⟩:=by unfold Addr.add;split<;>simp_all
end
end Go.Fw
namespace Go.Proofs.YtmmnimagbnlcmaaGreatDoor
section
open Go.ChangeShapes
theorem BS9 {H:Type} (d:DataW H):1≤Rows.uptoBulk d:=by
 cases d with
 | lit l=>cases l<;>simp [Rows.uptoBulk]
 | nil=>simp [Rows.uptoBulk]
 | ptr d=>simp [Rows.uptoBulk]
 | slice elems spare=>simp [Rows.uptoBulk]
 | agg parts=>simp [Rows.uptoBulk]
 | iface t d=>simp [Rows.uptoBulk]
 | map entries=>simp [Rows.uptoBulk]
 | held h=>simp [Rows.uptoBulk]
end
end Go.Proofs.YtmmnimagbnlcmaaGreatDoor
namespace Go.Fw
theorem Bu1 {w:World} {g i:Nat} {cs:List Value} {t:TypeId} (v:Value) (h:w.heap[g]? =some (.cells cs.toArray t (0,0))):(w.setCell ⟨g,i,none⟩ v).heap[g]? =some (.cells (cs.set i v).toArray t (0,0)):=by
 rw[heap_setCell_same w g i cs.toArray t v h]
 simp
theorem AO5 {w:World} {g i:Nat} {cs:List Value} {t:TypeId} {fr:Nat×Nat} (h:w.heap[g]? =some (.cells cs.toArray t fr)):w.cell? ⟨g,i,none⟩=cs[i]? :=by
 rw[cell_of_row w g i cs.toArray t fr h];simp
theorem Bl3 {w:World} {g i:Nat} {cs:List Value} {t:TypeId} (h:w.heap[g]? =some (.cells cs.toArray t (0,0))):w.frozen? ⟨g,i,none⟩=false:=frozen_of_row w g i cs.toArray t h
theorem AW6 {w:World} {g:Nat} {o:Obj} (h:w.heap[g]? =some o):g<w.heap.size:=by
 rcases Nat.lt_or_ge g w.heap.size with h'|h'
 ·exact h'
 ·rw[Array.getElem?_eq_none (by omega)] at h;cases h
theorem A70 {w:World} {g:Nat} {cs:List Value} {t:TypeId} {fr:Nat×Nat} (h:w.heap[g]? =some (.cells cs.toArray t fr)):At w (some ⟨g,0,none⟩) cs:=by
 cases cs with
 | nil=>exact .inl O
 | cons x xs=>exact .inr ⟨g,0,O,AW6 h,fun i _=>by rw[Nat.zero_add];exact AO5 h⟩
theorem Av1 {P:Program} {w:World} {src e dst:TypeId} (hs:P.underlying src=some (.slice e)) (he:P.underlying e=some (.int .u8)) (hd:P.underlying dst=some .string)
 {a:Option Addr} {xs:List Int} {n:Nat} (c:Nat) (hn:n=xs.length) (h:At w a (octs xs)):(convert src dst (.slice a n c)).run P w= .ok (.string (strOfNums xs)) w:=by
 subst hn
 cases xs with
 | nil=>
   rw[run_convert_bytes_string w src dst e _ _ c hs he hd]
   cases a<;>simp [Conv.bytesToString,loadCells]
   all_goals rfl
 | cons x xs=>
   obtain⟨b,o,rfl,_,hc⟩:=h.int (i:=0) (by simp)
   exact run_convert_bytes_arg w src e hs he b o _ c (x::xs) O hc dst hd
theorem Ak5 (xs ys:List Int):strOfNums xs++strOfNums ys=strOfNums (xs++ys):=by
 show (⟨_⟩:ByteArray)++⟨_⟩=⟨_⟩
 rw[ByteArray.mk_append_mk]
 simp
end Go.Fw
