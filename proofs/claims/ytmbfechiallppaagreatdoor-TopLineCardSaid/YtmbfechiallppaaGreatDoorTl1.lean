/- Texts of this claim, merged: Base LawBase Base2 SxA SxB LawTr CardBase. -/
import Derived.WalkKit
import Derived.WalkSpells
import Derived.WalkLawsBesides
import Derived.Handy
import Derived.Lib.Hide
import Derived.Laws.BitsAllLaws
import Derived.Deep.MidRow
import Derived.Deep.WholeRow
import Derived.Test.YtmbfechiallppaaGreatDoorRows
import Derived.ProofKit
import Derived.OpenShut
import Derived.JoinedCond
import Derived.SliceStrings
import Derived.BigQuiet
import Derived.Laws.CopyOwn
import Derived.Deep.QuietTactic
import Derived.Laws.AppendOwnNone
import Derived.Laws.MakeOwn
import Derived.Laws.IdiomStrings
import Derived.OrdersHeld
import Derived.Lib.SliceRun
import Derived.ChangeKeysEq
import Derived.Laws.CopyRow
import Derived.Test.YtmbfechiallppaaGreatDoorCards
import Derived.Test.YtmbfechiallppaaGreatDoorTie
import Derived.Deep.DeepHandedRow
section
namespace Go.Fw
open Go Go.RowKit
/-- In w, from address a on, the cells xs. -/
def At (w : World) (a : Option Addr) (xs : List Value) : Prop :=
  xs = [] ∨ ∃ b o, a = some ⟨b, o, none⟩ ∧ b < w.heap.size ∧ ∀ i, i < xs.length → w.cell? ⟨b, o + i, none⟩ = xs[i]?
theorem At.nil (w : World) (a : Option Addr) : At w a [] := .inl rfl
theorem At.mono {w w' : World} {a : Option Addr} {xs : List Value} (h : At w a xs) (hb : Below w.heap.size w w') : At w' a xs := by
  rcases h with h | ⟨b, o, ha, hlt, hc⟩
  · exact .inl h
  · exact .inr ⟨b, o, ha, Nat.lt_of_lt_of_le hlt hb.size, fun i hi => (hb.cell (p := ⟨b, o + i, none⟩) hlt).trans (hc i hi)⟩
theorem ext_trans {a b c : World} (h : Below a.heap.size a b) (k : Below b.heap.size b c) : Below a.heap.size a c :=
  h.trans (k.mono h.size)
/-- The cell of place k. -/
theorem At.get {w : World} {a : Option Addr} {xs : List Value} (h : At w a xs) (hne : xs ≠ []) :
    ∃ b o, a = some ⟨b, o, none⟩ ∧ b < w.heap.size ∧ ∀ i, i < xs.length → w.cell? ⟨b, o + i, none⟩ = xs[i]? := by
  rcases h with h | h
  · exact absurd h hne
  · exact h
abbrev ints (xs : List Int) : List Value := xs.map (Value.int .i64)
abbrev octs (xs : List Int) : List Value := xs.map (Value.int .u8)
abbrev strs (xs : List ByteArray) : List Value := xs.map Value.string
theorem At.int {w : World} {a : Option Addr} {k : IntKind} {xs : List Int} (h : At w a (xs.map (Value.int k))) {i : Nat} (hi : i < xs.length) :
    ∃ b o, a = some ⟨b, o, none⟩ ∧ b < w.heap.size ∧ ∀ i, i < xs.length → w.cell? ⟨b, o + i, none⟩ = some (.int k (xs.getD i 0)) := by
  obtain ⟨b, o, ha, hb, hc⟩ := h.get (by intro e; have := congrArg List.length e; simp at this; subst this; simp at hi)
  refine ⟨b, o, ha, hb, fun i hi => ?_⟩
  rw [hc i (by simpa using hi)]
  simp [List.getD, List.getElem?_eq_getElem hi]
theorem At.str {w : World} {a : Option Addr} {xs : List ByteArray} (h : At w a (strs xs)) {i : Nat} (hi : i < xs.length) :
    ∃ b o, a = some ⟨b, o, none⟩ ∧ b < w.heap.size ∧ ∀ i, i < xs.length → w.cell? ⟨b, o + i, none⟩ = some (.string (xs.getD i ByteArray.empty)) := by
  obtain ⟨b, o, ha, hb, hc⟩ := h.get (by intro e; have := congrArg List.length e; simp at this; subst this; simp at hi)
  refine ⟨b, o, ha, hb, fun i hi => ?_⟩
  rw [hc i (by simpa using hi)]
  simp [List.getD, List.getElem?_eq_getElem hi]
/-- Pairs of integers, one behind the other. -/
def flat2 (l : List (Int × Int)) : List Value := l.flatMap fun x => [.int .i64 x.1, .int .i64 x.2]
theorem flat2_length (l : List (Int × Int)) : (flat2 l).length = l.length * 2 := by
  induction l with
  | nil => rfl
  | cons x l ih => simp only [flat2, List.flatMap_cons, List.length_append, List.length_cons, List.length_nil] at ih ⊢; omega
theorem flat2_get (l : List (Int × Int)) (k : Nat) (hk : k < l.length) : (flat2 l)[k * 2]? = some (.int .i64 (l.getD k (0, 0)).1) ∧ (flat2 l)[k * 2 + 1]? = some (.int .i64 (l.getD k (0, 0)).2) := by
  induction l generalizing k with
  | nil => simp at hk
  | cons x l ih =>
    cases k with
    | zero => simp [flat2]
    | succ k =>
      have h := ih k (by simpa using hk)
      have e : (k + 1) * 2 = k * 2 + 2 := by omega
      rw [e]
      simpa [flat2, List.flatMap_cons, List.getD] using h
theorem At.pair {w : World} {a : Option Addr} {l : List (Int × Int)} (h : At w a (flat2 l)) {k : Nat} (hk : k < l.length) :
    ∃ b o, a = some ⟨b, o, none⟩ ∧ b < w.heap.size ∧ ∀ k, k < l.length → w.cell? ⟨b, o + k * 2, none⟩ = some (.int .i64 (l.getD k (0, 0)).1) ∧ w.cell? ⟨b, o + k * 2 + 1, none⟩ = some (.int .i64 (l.getD k (0, 0)).2) := by
  have hl := flat2_length l
  obtain ⟨b, o, ha, hb, hc⟩ := h.get (by intro e; rw [e] at hl; simp at hl; omega)
  refine ⟨b, o, ha, hb, fun k hk => ?_⟩
  have g := flat2_get l k hk
  exact ⟨(hc (k * 2) (by omega)).trans g.1, by rw [Nat.add_assoc]; exact (hc (k * 2 + 1) (by omega)).trans g.2⟩
/-- A new block reads as it was laid. -/
theorem At.new (w : World) (cs : Array Value) (t : TypeId) : At (w.alloc (.cells cs t)) (some ⟨w.heap.size, 0, none⟩) cs.toList := by
  rcases Nat.eq_zero_or_pos cs.size with h | h
  · left; exact List.eq_nil_of_length_eq_zero (by simpa using h)
  · right
    refine ⟨_, _, rfl, by simp, fun i hi => ?_⟩
    simp [go_sem]
theorem At.newAt {w : World} {cs : Array Value} {t : TypeId} {b : Nat} {xs : List Value} (hb : b = w.heap.size) (hx : cs.toList = xs) : At (w.alloc (.cells cs t)) (some ⟨b, 0, none⟩) xs := by
  subst hb; subst hx; exact At.new _ _ _
theorem At.alloc {w : World} {a : Option Addr} {xs : List Value} (h : At w a xs) (o : Obj) : At (w.alloc o) a xs := h.mono ((Below.refl _ _).alloc (Nat.le_refl _) _)
/-- What a call owns reads as it is owned. -/
theorem At.own {w : World} {B : Nat} {e : TypeId} {v : Value} {n : Nat} {xs : List Value} (h : w.ownsRow B e 1 v n xs) :
    ∃ a c, v = .slice a n c ∧ At w a xs := by
  obtain ⟨hl, h | ⟨g, cap, cur, hv, hg, hh, hn, hm, hs, ht⟩⟩ := h
  · obtain ⟨rfl, rfl⟩ := h
    exact ⟨_, _, rfl, .inl (List.eq_nil_of_length_eq_zero (by simpa using hl))⟩
  · have hlt : g < w.heap.size := by
      rcases Nat.lt_or_ge g w.heap.size with h | h
      · exact h
      · rw [Array.getElem?_eq_none (by omega)] at hh; cases hh
    refine ⟨_, _, hv, .inr ⟨g, 0, rfl, hlt, fun i hi => ?_⟩⟩
    rw [Nat.zero_add]
    have := World.ownsRow.cellAt (w := w) (base := B) (e := e) (size := 1) (g := g) (n := n) (cap := cap) (xs := xs) ⟨hl, .inr ⟨g, cap, cur, rfl, hg, hh, hn, hm, hs, ht⟩⟩ i (by omega)
    exact this
/-- A whole struct or array, by value, into the block that was made last: no cell is written out. -/
theorem fw_store_new {P : Program} {ops : Array Oper} {rest : List Oper} {op : Oper} {a : Act} {W : World} {Q : Exit → Act → World → Prop} (hgd : op.guard = none) (ty : TypeId) (x y : Operand) (ho : op.op = .store ty x y)
    (w : World) (g : Nat) (c c' : Array Value) (hW : W = w.alloc (.cells c ty)) (hx : a.eval x = .pointer (some ⟨g, 0, none⟩)) (hy : a.eval y = .agg c') (hg : g = w.heap.size)
    (hi : (P.info? ty).map (·.size) = some c'.size) (hs : c.size = c'.size) (h1 : c'.all (·.oneCell') = true)
    (h : wpList P ops Q rest (a.put op.dst undef) (w.alloc (.cells c' ty))) : wpList P ops Q (op :: rest) a W := by
  subst hW
  subst hg
  refine wpList_plain hgd fun K hK => ?_
  unfold Oper.wp execOp
  simp only [ho, hx, hy, Sem.run_bind, run_storeAt_new (P := P) w ty c c' hi hs h1, Result.andThen_ok]
  exact hK _ _ h
/-- A struct or array built of parts, its cells by one closed fact. -/
theorem fw_build {P : Program} {ops : Array Oper} {rest : List Oper} {op : Oper} {a : Act} {w : World} {Q : Exit → Act → World → Prop} (hgd : op.guard = none) (t : TypeId) (parts : Array (Nat × Operand)) (ho : op.op = .build t parts)
    (L : List (Nat × Value)) (cs : Array Value) (hL : parts.toList.map (fun x => (x.1, a.eval x.2)) = L) (hb : P.built t L = some cs)
    (h : wpList P ops Q rest (a.put op.dst (.agg cs)) w) : wpList P ops Q (op :: rest) a w := by
  have hL : (parts.map fun (i, x) => (i, a.eval x)).toList = L := by rw [Array.toList_map]; exact hL
  subst hL
  refine wpList_plain hgd fun K hK => wp_build t parts ho (by rw [hb]; rfl) ?_
  rw [hb]
  exact hK _ _ h
def builtSlice (P : Program) (e : TypeId) (n : Nat) (parts : List (Nat × Value)) : Option (Array Value) :=
  match P.info? e with
  | none => none
  | some ie => match ie.zero with
    | none => none
    | some z => if n * ie.size > 2 ^ 24 ∨ n * ie.size = 0 then none else Instr.fill (fun i => some (i * ie.size, ie.size)) ((Array.range (n * ie.size)).map (z.cells[· % z.cells.size]!)) parts
theorem run_buildSlice {P : Program} (w : World) (t e : TypeId) (n : Nat) (parts : Array (Nat × Value)) (cs : Array Value) (hu : P.underlying t = some (.slice e)) (h : builtSlice P e n parts.toList = some cs) :
    (Instr.buildSlice t n parts).run P w = .ok (.slice (some ⟨w.heap.size, 0, none⟩) n n) (w.alloc (.cells cs e)) := by
  unfold builtSlice at h
  cases hi : P.info? e with
  | none => simp [hi] at h
  | some ie =>
    cases hz : ie.zero with
    | none => simp [hi, hz] at h
    | some z =>
      simp only [hi, hz] at h
      split at h
      · cases h
      · rename_i hn
        have h1 : ¬ (n * ie.size > 2 ^ 24) := fun x => hn (.inl x)
        have h2 : ¬ (n * ie.size = 0) := fun x => hn (.inr x)
        have h1' : ¬ (16777216 < n * ie.size) := h1
        simp [Instr.buildSlice, run_underlying hu, sizeOf, typeInfo, zeroValue, hi, hz, h1', h2, h, newRow]
/-- append of values that were laid in a new block, onto a slice that the call owns. -/
theorem fw_append {P : Program} {ops : Array Oper} {rest : List Oper} {o : Oper} {a : Act} {Q : Exit → Act → World → Prop} {W1 : World} (hgd : o.guard = none) (s x : Operand) (t : TypeId)
    (ho : o.op = .call { callee := .builtin .append, args := #[s, x], argTypes := #[t, t] })
    (base : Nat) (e : TypeId) (z : Value) (size bytes : Nat) (ht : P.underlying t = some (.slice e)) (hi : (P.info? e).map (fun i => (i.zero, i.size, i.bytes)) = some (some z, size, bytes))
    (hzs : z.cells.size = size) (hsz : 0 < size) (hby : 0 < bytes) {W : World} (v : Value) (n : Nat) (xs : List Value) (hs : a.eval s = v) (hown : W.ownsRow base e size v n xs)
    (g m : Nat) (news : List Value) (hW : W1 = W.alloc (.cells news.toArray e)) (hx : a.eval x = .slice (some ⟨g, 0, none⟩) m m) (hg : g = W.heap.size) (hl : news.length = m * size)
    (h1 : ∀ u ∈ news, u.oneCell' = true) (hb : (n + m) * bytes ≤ 140737488355328) (hbase : base ≤ W.heap.size)
    (h : ∀ v' w', w'.ownsRow base e size v' (n + m) (xs ++ news) → Below base W w' → wpList P ops Q rest (a.put o.dst v') w') : wpList P ops Q (o :: rest) a W1 := by
  subst hW
  subst hg
  obtain ⟨i0, hi0, hz0, hz1, hz2⟩ := info_parts hi
  have hlen : n + m ≤ 140737488355328 := Nat.le_trans (Nat.le_mul_of_pos_right _ hby) hb
  refine wpList_append_own _ hgd s x t ho base e i0 z size bytes ht hi0 hz0 hz1 hz2 hzs hsz v n xs hs (hown.alloc _) ⟨W.heap.size, 0, none⟩ m m news hx hl ?_ h1 (by unfold maxLen; omega) hb (by simp; omega) ?_
  · intro j u hj
    rw [Addr.add_mid, Nat.zero_add, World.cell?_alloc_at _ _ _ _ rfl]
    simpa using hj
  · intro v' w' hown' hgr _
    refine h v' w' hown' ?_
    refine ((Below.refl base W).alloc hbase _).grown hgr (by simp; omega) (fun k hk => (World.ownsRow.lt hown k hk).1)
theorem _root_.Go.RowKit.Below.row {B : Nat} {w w' : World} (h : Below B w w') {g : Nat} {o : Obj} (hg : g < B) (ho : w.heap[g]? = some o) : w'.heap[g]? = some o := (h.block g hg).trans ho
theorem toList_inj {a b : ByteArray} (h : a.toList = b.toList) : a = b := by
  rw [ByteArray.toList_eq, ByteArray.toList_eq] at h
  cases a; cases b
  exact congrArg _ (Array.toList_inj.1 h)
theorem toList_ne {a b : ByteArray} (h : ¬ a = b) : (a.toList == b.toList) = false := by
  rw [beq_eq_false_iff_ne]; exact fun e => h (toList_inj e)
theorem ret_int {k : IntKind} {a b : Int} (h : a = b) : Ending.returned (.int k a) = .returned (.int k b) := by rw [h]
theorem ret_bool {a b : Bool} (h : a = b) : Ending.returned (.bool a) = .returned (.bool b) := by rw [h]
theorem i64_and (a b : Int) (h1 : 0 ≤ a) (h2 : a < 9223372036854775808) (h3 : 0 ≤ b) (h4 : b < 9223372036854775808) : bits .and .i64 a b = ((a.toNat &&& b.toNat : Nat) : Int) := by
  obtain ⟨m, rfl⟩ := Int.eq_ofNat_of_zero_le h1
  obtain ⟨n, rfl⟩ := Int.eq_ofNat_of_zero_le h3
  have hm : (BitVec.ofInt 64 (m : Int)).toNat = m := ofInt_u64 m (by omega)
  have hn : (BitVec.ofInt 64 (n : Int)).toNat = n := ofInt_u64 n (by omega)
  have hlt : m &&& n < 2 ^ 63 := Nat.and_lt_two_pow _ (by omega)
  unfold bits
  show IntKind.i64.wrap (((BitVec.ofInt 64 (m : Int)) &&& (BitVec.ofInt 64 (n : Int))).toNat : Int) = _
  rw [BitVec.toNat_and, hm, hn, Int.toNat_natCast, Int.toNat_natCast]
  exact IntWalk.i64_in _ (by omega)
end Go.Fw
end
section
namespace Go.Fw
open Go Go.RowKit Go.ChangeShapes Go.WideShapes Go.ChangeAt
/-- Every argument reads as it read: nothing old has turned. -/
theorem trodAll_stays {H : Type} {enc : TypeId × Value → H} {P : Program} (hl : laidOutB P = true) {W W' : World} (hb : Below W.heap.size W W') :
    ∀ (ts : List TypeId) (vs : List Value) (ds : List (DataW H)) (p : List MemPlace), ts.all (fun t => P.readableRec t && decide (t < P.types.size)) = true →
      DataW.TrodAll enc P W 0 (fun _ => true) true ts vs ds p → (∀ x ∈ p, x.block < W.heap.size) →
      DataW.TrodAll enc P W' 0 (fun b => decide (b < W.heap.size)) true ts vs ds p := by
  intro ts
  induction ts with
  | nil =>
    intro vs ds p _ h _
    obtain ⟨rfl, rfl, rfl⟩ := trodAll_nil h
    exact trodAll_mk0
  | cons t ts ih =>
    intro vs ds p ht h hlt
    obtain ⟨v, vs', d, ds', p, q, rfl, rfl, rfl, hd, hr⟩ := trodAll_cons h
    simp only [List.all_cons, Bool.and_eq_true, decide_eq_true_eq] at ht
    refine trodAll_cons_mk (Below.trod hl ht.1.1 ht.1.2 hd hb (fun x hx => hlt x (by simp [hx]))) (ih _ _ _ ht.2 hr (fun x hx => hlt x (by simp [hx])))
/-- A law's post: it returned true, and nothing old has turned. -/
theorem law_post {H : Type} {enc : TypeId × Value → H} {P : Program} {f : Func} {s : ChangeSpec} {W W' : World} {args : Array Value} {ds gs : List (DataW H)} {before : List MemPlace} {tb : TypeId}
    (hl : laidOutB P = true) (hts : f.params.toList.all (fun t => P.readableRec t && decide (t < P.types.size)) = true) (hr : f.resultTypes = #[tb]) (htb : P.underlying tb = some .bool) (hv : s.vars = [])
    (hW : DataW.Whole enc P f.params.toList s.vars false W args.toList ds gs before) (hfn : s.fn H (ds ++ gs) = { results := [.lit (.bool true)], args := ds }) (hb : Below W.heap.size W W') :
    s.post enc P f false true false false W args (.bool true) W' := by
  have hW' := hW
  obtain ⟨p, q, hA, hV, rfl, hfz, hnd⟩ := hW
  have hlt : ∀ x ∈ p ++ q, x.block < W.heap.size := fun x hx => hW'.lt x hx
  refine ⟨ds, gs, p ++ q, [], p, q, hW', ?_, ?_, ?_, hb.frame _, fun h => by cases h⟩
  · rw [hfn, hr]
    exact trodAll_cons_mk (shut_bool htb _) trodAll_mk0
  · rw [hfn]
    exact trodAll_stays hl hb _ _ _ _ hts hA (fun x hx => hlt x (by simp [hx]))
  · rw [hfn]
    rw [hv] at hV ⊢
    obtain ⟨rfl, rfl⟩ := trodVars_none hV
    rfl
theorem add_plain (b o : Nat) (j : Nat) : (⟨b, o, none⟩ : Addr).add j = ⟨b, o + j, none⟩ := by unfold Addr.add; split <;> simp_all
end Go.Fw
namespace Go.Proofs.YtmbfechiallppaaGreatDoor
open Go.Fw Go.ChangeShapes
theorem one_le {H : Type} (d : DataW H) : 1 ≤ Rows.uptoBulk d := by
  cases d with
  | lit l => cases l <;> simp [Rows.uptoBulk]
  | nil => simp [Rows.uptoBulk]
  | ptr d => simp [Rows.uptoBulk]
  | slice elems spare => simp [Rows.uptoBulk]
  | agg parts => simp [Rows.uptoBulk]
  | iface t d => simp [Rows.uptoBulk]
  | map entries => simp [Rows.uptoBulk]
  | held h => simp [Rows.uptoBulk]
end Go.Proofs.YtmbfechiallppaaGreatDoor
namespace Go.Fw
open Go.RowKit Go.ChangeShapes Go.WideShapes Go.ChangeAt
end Go.Fw
end
section
namespace Go.Fw
open Go Go.RowKit
/-- A world that may have grown since w, unchanged below B. -/
structure Grow (B : Nat) (w : World) where
  now : World
  below : Below B w now
theorem Grow.exists (B : Nat) (w : World) : Nonempty (Grow B w) := ⟨⟨w, Below.refl _ _⟩⟩
instance growNonempty (B : Nat) (w : World) : Nonempty (Grow B w) := Grow.exists B w
theorem Grow.call {P : Program} {f : FuncId} {args : Array Value} {B : Nat} {w : World} {v : Value} (hB : B ≤ w.heap.size) (x : Grow B w)
    (h : Calls P f args x.now fun e w' => e = .returned v ∧ Below x.now.heap.size x.now w') : Calls P f args x.now fun e w' => e = .returned v ∧ ∃ y : Grow B w, w' = y.now :=
  h.mono fun _ w' ⟨he, hb⟩ => ⟨he, ⟨w', x.below.trans (hb.mono (Nat.le_trans hB x.below.size))⟩, rfl⟩
theorem Grow.cell {B : Nat} {w : World} {b o : Nat} {v : Value} (hb : b < B) (h : w.cell? ⟨b, o, none⟩ = some v) (x : Grow B w) : x.now.cell? ⟨b, o, none⟩ = some v := (x.below.cell (p := ⟨b, o, none⟩) hb).trans h
theorem Grow.load {P : Program} {B : Nat} {w : World} {g : Nat} {cs : Array Value} {t ty : TypeId} {d : TypeDesc} (hg : g < B) (h : w.heap[g]? = some (.cells cs t (0, 0)))
    (hu : P.underlying ty = some d) (hd : d.isRow = true) (hi : (P.info? ty).map (·.size) = some cs.size) (x : Grow B w) :
    (Instr.loadAt ty (.pointer (some ⟨g, 0, none⟩))).run P x.now = .ok (.agg cs) x.now := by
  simp only [Instr.loadAt, Instr.sureAddr, Sem.run_bind, Sem.run_pure, Result.andThen_ok]
  exact run_loadVar_row x.now g t ty cs (0, 0) d (x.below.row hg h) hu (by cases d <;> simp_all) hi
/-- A store into a row that is known whole. -/
theorem row_set {w : World} {g i : Nat} {cs : List Value} {t : TypeId} (v : Value) (h : w.heap[g]? = some (.cells cs.toArray t (0, 0))) : (w.setCell ⟨g, i, none⟩ v).heap[g]? = some (.cells (cs.set i v).toArray t (0, 0)) := by
  rw [heap_setCell_same w g i cs.toArray t v h]
  simp
theorem row_cell {w : World} {g i : Nat} {cs : List Value} {t : TypeId} {fr : Nat × Nat} (h : w.heap[g]? = some (.cells cs.toArray t fr)) : w.cell? ⟨g, i, none⟩ = cs[i]? := by
  rw [cell_of_row w g i cs.toArray t fr h]; simp
theorem row_free {w : World} {g i : Nat} {cs : List Value} {t : TypeId} (h : w.heap[g]? = some (.cells cs.toArray t (0, 0))) : w.frozen? ⟨g, i, none⟩ = false := frozen_of_row w g i cs.toArray t h
theorem row_lt {w : World} {g : Nat} {o : Obj} (h : w.heap[g]? = some o) : g < w.heap.size := by
  rcases Nat.lt_or_ge g w.heap.size with h' | h'
  · exact h'
  · rw [Array.getElem?_eq_none (by omega)] at h; cases h
theorem row_at {w : World} {g : Nat} {cs : List Value} {t : TypeId} {fr : Nat × Nat} (h : w.heap[g]? = some (.cells cs.toArray t fr)) : At w (some ⟨g, 0, none⟩) cs := by
  cases cs with
  | nil => exact .inl rfl
  | cons x xs => exact .inr ⟨g, 0, rfl, row_lt h, fun i _ => by rw [Nat.zero_add]; exact row_cell h⟩
/-- Bytes to a string, whatever the slice. -/
theorem conv_octs {P : Program} {w : World} {src e dst : TypeId} (hs : P.underlying src = some (.slice e)) (he : P.underlying e = some (.int .u8)) (hd : P.underlying dst = some .string)
    {a : Option Addr} {xs : List Int} {n : Nat} (c : Nat) (hn : n = xs.length) (h : At w a (octs xs)) : (convert src dst (.slice a n c)).run P w = .ok (.string (strOfNums xs)) w := by
  subst hn
  cases xs with
  | nil =>
    rw [run_convert_bytes_string w src dst e _ _ c hs he hd]
    cases a <;> simp [Conv.bytesToString, loadCells]
    all_goals rfl
  | cons x xs =>
    obtain ⟨b, o, rfl, _, hc⟩ := h.int (i := 0) (by simp)
    exact run_convert_bytes_arg w src e hs he b o _ c (x :: xs) rfl hc dst hd
theorem strOfNums_size (xs : List Int) : (strOfNums xs).size = xs.length := by
  show (xs.map fun n => UInt8.ofNat n.toNat).toArray.size = _
  simp
theorem strOfNums_append (xs ys : List Int) : strOfNums xs ++ strOfNums ys = strOfNums (xs ++ ys) := by
  show (⟨_⟩ : ByteArray) ++ ⟨_⟩ = ⟨_⟩
  rw [ByteArray.mk_append_mk]
  simp
end Go.Fw
end
section
namespace Go.Sx
open Go Go.RowKit Go.Fw
/-- A piece of the semantics that looks at no memory, run. -/
def still {α : Type} (P : Program) : Sem α → Option α
  | .pure a => some a
  | .program k => still P (k P)
  | .mark _ k => still P k
  | _ => none
theorem still_run {P : Program} {α : Type} (s : Sem α) (v : α) (h : still P s = some v) (w : World) : s.run P w = .ok v w := by
  induction s with
  | pure a => simp only [still, Option.some.injEq] at h; subst h; rfl
  | program k ih => exact ih P h
  | mark m k ih => exact ih h
  | _ => simp [still] at h
/-- What is known of the slots. -/
abbrev Fm := List (Nat × Value)
def look : Fm → Nat → Option Value
  | [], _ => none
  | (j, v) :: r, i => bif Nat.beq i j then some v else look r i
def ev (s : Fm) : Operand → Option Value
  | .tmp t => look s t
  | .const v => some v
  | .global g => some (.pointer (some ⟨g, 0, none⟩))
  | .func f => some (.func (.func f) #[] #[])
def upd (s : Fm) : Option Nat → Value → Fm
  | some d, v => (d, v) :: s
  | none, _ => s
/-- How many slots a frame has, and which deferred calls stand on it. -/
structure Sz where
  n : Nat
  ds : List Deferred := []
instance : Coe Nat Sz := ⟨fun n => ⟨n, []⟩⟩
def okDst (n : Sz) : Option Nat → Bool
  | some d => Nat.blt d n.n
  | none => true
structure Fr (n : Sz) (s : Fm) (a : Act) : Prop where
  defers : a.defers = n.ds
  size : a.tmps.size = n.n
  has : ∀ i v, look s i = some v → a.tmps.getD i undef = v
theorem Fr.ev {n : Sz} {s : Fm} {a : Act} (h : Fr n s a) {x : Operand} {v : Value} (hx : ev s x = some v) : a.eval x = v := by
  cases x with
  | tmp t => exact h.has t v hx
  | const u => simp only [Sx.ev, Option.some.injEq] at hx; subst hx; rfl
  | global g => simp only [Sx.ev, Option.some.injEq] at hx; subst hx; rfl
  | func f => simp only [Sx.ev, Option.some.injEq] at hx; subst hx; rfl
theorem Fr.put {n : Sz} {s : Fm} {a : Act} (h : Fr n s a) (d : Option Nat) (v : Value) (hd : okDst n d = true) : Fr n (upd s d v) (a.put d v) := by
  cases d with
  | none => exact h
  | some d =>
    have hd' : d < n.n := by simpa [okDst, Nat.blt_eq] using hd
    refine ⟨h.defers, by simpa [Act.put] using h.size, fun i u hi => ?_⟩
    simp only [upd, look] at hi
    by_cases e : i = d
    · subst e
      have e1 : Nat.beq i i = true := Nat.beq_eq ▸ rfl
      rw [e1, cond_true, Option.some.injEq] at hi
      subst hi
      simp only [Act.put, Array.getD_eq_getD_getElem?, Array.getElem?_setIfInBounds]
      simp only [if_true]
      rw [if_pos (by rw [h.size]; exact hd')]
      rfl
    · have e2 : Nat.beq i d = false := by
        cases hb : Nat.beq i d with
        | false => rfl
        | true => exact absurd (Nat.eq_of_beq_eq_true hb) e
      rw [e2, cond_false] at hi
      have := h.has i u hi
      simp only [Act.put, Array.getD_eq_getD_getElem?, Array.getElem?_setIfInBounds] at this ⊢
      rw [if_neg (fun x => e x.symm)]
      exact this
/-- Less is known. -/
def Le (s s' : Fm) : Prop := ∀ i v, look s i = some v → look s' i = some v
theorem Le.nil (s : Fm) : Le [] s := fun _ _ h => by simp [look] at h
theorem Le.cons {s s' : Fm} {j : Nat} {v : Value} (hj : look s' j = some v) (h : Le s s') : Le ((j, v) :: s) s' := by
  intro i u hi
  simp only [look] at hi
  cases hb : Nat.beq i j with
  | true => rw [hb, cond_true, Option.some.injEq] at hi; subst hi; rw [Nat.eq_of_beq_eq_true hb]; exact hj
  | false => rw [hb, cond_false] at hi; exact h i u hi
theorem Fr.le {n : Sz} {s s' : Fm} {a : Act} (h : Fr n s' a) (hl : Le s s') : Fr n s a := ⟨h.defers, h.size, fun i v hi => h.has i v (hl i v hi)⟩
/-- A block that the call holds: known whole, or a row that it may append to. -/
inductive Ent where
  | blk (b : Nat) (t : TypeId) (cs : List Value)
  | own (e : TypeId) (size : Nat) (a : Option Addr) (n c : Nat) (xs : List Value)
  | obj (b : Nat) (o : Obj)
def Ent.key : Ent → Option Nat
  | .blk b _ _ => some b
  | .own _ _ a n c _ => (Value.slice a n c).ownBlock
  | .obj b _ => some b
structure Ctx where
  B : Nat
  w0 : World
def Ent.ok (G : Ctx) (w : World) : Ent → Prop
  | .blk b t cs => G.B ≤ b ∧ w.heap[b]? = some (.cells cs.toArray t (0, 0))
  | .own e size a n c xs => w.ownsRow G.B e size (.slice a n c) n xs
  | .obj b o => G.B ≤ b ∧ w.heap[b]? = some o
def Ent.apart (x y : Ent) : Prop := ∀ k, x.key = some k → y.key ≠ some k
theorem Ent.apart_symm {x y : Ent} (h : x.apart y) : y.apart x := fun k hk hx => h k hx hk
structure Holds (G : Ctx) (H : List Ent) (w : World) : Prop where
  below : Below G.B G.w0 w
  base : G.B ≤ w.heap.size
  ok : ∀ x ∈ H, x.ok G w
  apart : H.Pairwise Ent.apart
theorem Ent.ok_lt {G : Ctx} {w : World} {x : Ent} (h : x.ok G w) {k : Nat} (hk : x.key = some k) : G.B ≤ k ∧ k < w.heap.size := by
  cases x with
  | blk b t cs =>
    simp only [Ent.key, Option.some.injEq] at hk
    subst hk
    exact ⟨h.1, row_lt h.2⟩
  | own e size a n c xs => exact World.ownsRow.lt h k hk
  | obj b o =>
    simp only [Ent.key, Option.some.injEq] at hk
    subst hk
    exact ⟨h.1, row_lt h.2⟩
theorem own_block {w w' : World} {B : Nat} {e : TypeId} {size : Nat} {v : Value} {n : Nat} {xs : List Value} (h : w.ownsRow B e size v n xs) (hb : ∀ k, v.ownBlock = some k → w'.heap[k]? = w.heap[k]?) : w'.ownsRow B e size v n xs := by
  refine ⟨h.1, ?_⟩
  rcases h.2 with hn | ⟨g, cap, cur, rfl, hg, hh, rest⟩
  · exact .inl hn
  · exact .inr ⟨g, cap, cur, rfl, hg, (hb g rfl).trans hh, rest⟩
theorem Ent.ok_of {G : Ctx} {w w' : World} {x : Ent} (h : x.ok G w) (hb : ∀ k, x.key = some k → w'.heap[k]? = w.heap[k]?) : x.ok G w' := by
  cases x with
  | blk b t cs => exact ⟨h.1, (hb b rfl).trans h.2⟩
  | own e size a n c xs => exact own_block h hb
  | obj b o => exact ⟨h.1, (hb b rfl).trans h.2⟩
theorem Holds.drop {G : Ctx} {x : Ent} {H : List Ent} {w : World} (h : Holds G (x :: H) w) : Holds G H w :=
  ⟨h.below, h.base, fun y hy => h.ok y (List.mem_cons_of_mem _ hy), (List.pairwise_cons.1 h.apart).2⟩
theorem Holds.sub {G : Ctx} {H H' : List Ent} {w : World} (h : Holds G H w) (hs : H'.Sublist H) : Holds G H' w :=
  ⟨h.below, h.base, fun y hy => h.ok y (hs.subset hy), h.apart.sublist hs⟩
theorem Holds.perm {G : Ctx} {H H' : List Ent} {w : World} (h : Holds G H w) (hp : H.Perm H') : Holds G H' w :=
  ⟨h.below, h.base, fun y hy => h.ok y (hp.mem_iff.2 hy), (hp.pairwise_iff (fun {_ _} h => Ent.apart_symm h)).1 h.apart⟩
/-- One entry is picked out of what is held. -/
inductive Pick (x : Ent) : List Ent → List Ent → Prop where
  | here (H : List Ent) : Pick x (x :: H) H
  | there {y : Ent} {H H' : List Ent} (h : Pick x H H') : Pick x (y :: H) (y :: H')
theorem Pick.perm {x : Ent} {H H' : List Ent} (h : Pick x H H') : H.Perm (x :: H') := by
  induction h with
  | here H => exact List.Perm.refl _
  | there h ih => exact (List.Perm.cons _ ih).trans (List.Perm.swap _ _ _)
theorem Holds.pick {G : Ctx} {x : Ent} {H H' : List Ent} {w : World} (h : Holds G H w) (hp : Pick x H H') : Holds G (x :: H') w := h.perm hp.perm
/-- The world behind a step that touched one block at most, and made some. -/
theorem Holds.stepped {G : Ctx} {H : List Ent} {w w' : World} (h : Holds G H w) (r : Option Nat) (hg : w.grownBy w' r) (hr : ∀ k, r = some k → G.B ≤ k) (hH : ∀ x ∈ H, ∀ k, x.key = some k → r ≠ some k) : Holds G H w' :=
  ⟨h.below.grown hg h.base hr, Nat.le_trans h.base hg.size,
    fun x hx => Ent.ok_of (h.ok x hx) fun k hk => hg.block k (Ent.ok_lt (h.ok x hx) hk).2 (fun e => hH x hx k hk e.symm), h.apart⟩
theorem Holds.alloc {G : Ctx} {H : List Ent} {w : World} (h : Holds G H w) (t : TypeId) (cs : List Value) : Holds G (.blk w.heap.size t cs :: H) (w.alloc (.cells cs.toArray t)) := by
  have hb : ∀ k, k < w.heap.size → (w.alloc (.cells cs.toArray t)).heap[k]? = w.heap[k]? := fun k hk => Below.heap_alloc w _ k hk
  refine ⟨h.below.alloc h.base _, Nat.le_trans h.base (by simp), fun x hx => ?_, List.pairwise_cons.2 ⟨fun y hy k hk => ?_, h.apart⟩⟩
  · rcases List.mem_cons.1 hx with rfl | hx
    · exact ⟨h.base, heap_alloc_new _ _⟩
    · exact Ent.ok_of (h.ok x hx) fun k hk => hb k (Ent.ok_lt (h.ok x hx) hk).2
  · simp only [Ent.key, Option.some.injEq] at hk
    subst hk
    intro e
    exact absurd (Ent.ok_lt (h.ok y hy) e).2 (Nat.lt_irrefl _)
theorem Holds.drew {G : Ctx} {H : List Ent} {w : World} (h : Holds G H w) : Holds G H { w with drawn := w.drawn + 1 } :=
  ⟨⟨h.below.os, h.below.tape, h.below.output, h.below.size, h.below.block⟩, h.base, fun x hx => Ent.ok_of (h.ok x hx) fun _ _ => rfl, h.apart⟩
theorem Holds.set {G : Ctx} {H : List Ent} {w w' : World} {b : Nat} {t : TypeId} {cs cs' : List Value} (h : Holds G (.blk b t cs :: H) w) (hw : w'.heap[b]? = some (.cells cs'.toArray t (0, 0))) (ho : ∀ k, k ≠ b → w'.heap[k]? = w.heap[k]?)
    (hs : w'.heap.size = w.heap.size) (e1 : w'.os = w.os) (e2 : w'.tape = w.tape) (e3 : w'.output = w.output) : Holds G (.blk b t cs' :: H) w' := by
  have hB : G.B ≤ b := (h.ok _ List.mem_cons_self).1
  obtain ⟨hap, hapH⟩ := List.pairwise_cons.1 h.apart
  refine ⟨h.below.trans ⟨e1, e2, e3, Nat.le_of_eq hs.symm, fun k hk => ho k (by omega)⟩, by rw [hs]; exact h.base, fun x hx => ?_, List.pairwise_cons.2 ⟨fun y hy k hk => hap y hy k hk, hapH⟩⟩
  rcases List.mem_cons.1 hx with rfl | hx
  · exact ⟨hB, hw⟩
  · exact Ent.ok_of (h.ok x (List.mem_cons_of_mem _ hx)) fun k hk => ho k (fun e => hap x hx b rfl (e ▸ hk))
/-- Whoever holds this reads these cells there. -/
def Rd (G : Ctx) (H : List Ent) (a : Option Addr) (xs : List Value) : Prop := ∀ w, Holds G H w → At w a xs
theorem Rd.cons {G : Ctx} {H : List Ent} {a : Option Addr} {xs : List Value} {x : Ent} (h : Rd G H a xs) : Rd G (x :: H) a xs := fun w hw => h w hw.drop
theorem Rd.mem {G : Ctx} {H : List Ent} {e : TypeId} {size n c : Nat} {a : Option Addr} {xs : List Value} (h : Ent.own e size a n c xs ∈ H) : Rd G H a xs := fun w hw => by
  have ho : w.ownsRow G.B e size (.slice a n c) n xs := hw.ok _ h
  obtain ⟨hl, ⟨hv, h0⟩ | ⟨g, cap, cur, hv, hg, hh, hn, hm, hs, ht⟩⟩ := ho
  · left; subst h0; exact List.eq_nil_of_length_eq_zero (by simpa using hl)
  · have e1 : a = some ⟨g, 0, none⟩ := by injection hv
    subst e1
    right
    refine ⟨g, 0, rfl, row_lt hh, fun i hi => ?_⟩
    rw [Nat.zero_add]
    show (match w.heap[g]? with | some (.cells c _ _) => if (none : Option Nat).isSome then none else c[i]? | _ => none) = _
    rw [hh, ← ht, List.getElem?_take]
    rw [← ht, List.length_take] at hi
    rw [if_pos (by omega), Array.getElem?_toList]
    rfl
theorem Rd.blk {G : Ctx} {H : List Ent} {b : Nat} {t : TypeId} {cs : List Value} (h : Ent.blk b t cs ∈ H) : Rd G H (some ⟨b, 0, none⟩) cs := fun _ hw => row_at (hw.ok _ h).2
theorem Rd.top {B : Nat} {w0 : World} {H : List Ent} {a : Option Addr} {xs : List Value} (h : At w0 a xs) (hB : B = w0.heap.size) : Rd ⟨B, w0⟩ H a xs := fun _ hw => h.mono (hB ▸ hw.below)
theorem Rd.mono {G : Ctx} {H H' : List Ent} {a : Option Addr} {xs : List Value} (h : Rd G H a xs) (hs : ∀ w, Holds G H' w → Holds G H w) : Rd G H' a xs := fun w hw => h w (hs w hw)
abbrev Post := Exit → Fm → List Ent → Prop
def lift (G : Ctx) (n : Sz) (Q : Post) : Exit → Act → World → Prop := fun e a w => ∃ s H, Fr n s a ∧ Holds G H w ∧ Q e s H
def SW (P : Program) (G : Ctx) (n : Sz) (c : Code) (Q : Post) (s : Fm) (H : List Ent) : Prop := ∀ a w, Fr n s a → Holds G H w → c.wp P (lift G n Q) a w
def SL (P : Program) (G : Ctx) (n : Sz) (ops : Array Oper) (Q : Post) (l : List Oper) (s : Fm) (H : List Ent) : Prop := ∀ a w, Fr n s a → Holds G H w → wpList P ops (lift G n Q) l a w
def thn (next : Fm → List Ent → Prop) (Q : Post) : Post
  | .normal, s, H => next s H
  | e, s, H => Q e s H
def inb (id : Nat) (Q : Post) : Post
  | .exit id', s, H => if id' = id then Q .normal s H else Q (.exit id') s H
  | e, s, H => Q e s H
/-- A way's end: what is asked there. -/
def AtQ (Q : Post) (e : Exit) (s : Fm) (H : List Ent) : Prop := Q e s H
section
variable {P : Program} {G : Ctx} {n : Sz} {ops : Array Oper} {Q : Post} {s : Fm} {H : List Ent}
theorem sw_le {c : Code} {s' : Fm} {H' : List Ent} (hs : Le s' s) (hH : ∀ w, Holds G H w → Holds G H' w) (h : SW P G n c Q s' H') : SW P G n c Q s H := fun a w ha hw => h a w (ha.le hs) (hH w hw)
theorem sw_skip (h : AtQ Q .normal s H) : SW P G n .skip Q s H := fun _ _ ha hw => wp_skip ⟨s, H, ha, hw, h⟩
theorem sw_ret (h : AtQ Q .ret s H) : SW P G n .ret Q s H := fun _ _ ha hw => wp_ret ⟨s, H, ha, hw, h⟩
theorem sw_exit {id : Nat} (h : AtQ Q (.exit id) s H) : SW P G n (.exit id) Q s H := fun _ _ ha hw => wp_exit ⟨s, H, ha, hw, h⟩
theorem sw_seq {x y : Code} (h : SW P G n x (thn (SW P G n y Q) Q) s H) : SW P G n (.seq x y) Q s H := fun a w ha hw =>
  wp_seq (wp_mono (h a w ha hw) fun e a' w' ⟨s', H', ha', hw', hq⟩ => by
    cases e with
    | normal => exact hq a' w' ha' hw'
    | _ => exact ⟨s', H', ha', hw', hq⟩)
theorem sw_block {id : Nat} {c : Code} (h : SW P G n c (inb id Q) s H) : SW P G n (.block id c) Q s H := fun a w ha hw =>
  wp_block (wp_mono (h a w ha hw) fun e a' w' ⟨s', H', ha', hw', hq⟩ => by
    cases e with
    | exit id' =>
      simp only [Exit.inBlock]
      simp only [inb] at hq
      split
      · rename_i e; rw [if_pos e] at hq; exact ⟨s', H', ha', hw', hq⟩
      · rename_i e; rw [if_neg e] at hq; exact ⟨s', H', ha', hw', hq⟩
    | _ => exact ⟨s', H', ha', hw', hq⟩)
theorem sw_cond {c : Operand} {x y : Code} {t : Bool} (hc : ev s c = some (.bool t)) (ht : t = true → SW P G n x Q s H) (hf : t = false → SW P G n y Q s H) : SW P G n (.cond c x y) Q s H := fun a w ha hw =>
  wp_cond_split (ha.ev hc) (fun e => ht e a w ha hw) (fun e => hf e a w ha hw)
theorem sw_loop {c : Code} {α : Type} (S : α → Fm) (E : α → List Ent) (I : α → Prop) (μ : α → Nat) (x0 : α) (hI : I x0) (hs : Le (S x0) s) (hH : ∀ w, Holds G H w → Holds G (E x0) w)
    (round : ∀ x, I x → SW P G n c (thn (fun s' H' => ∃ y, I y ∧ μ y < μ x ∧ Le (S y) s' ∧ ∀ w, Holds G H' w → Holds G (E y) w) Q) (S x) (E x)) : SW P G n (.loop c) Q s H := fun a w ha hw => by
  intro b k cs
  have key : ∀ m x a w, μ x = m → I x → Fr n (S x) a → Holds G (E x) w → ∃ e a' w', lift G n Q e a' w' ∧ Arrives P (lone (b.at a (.code c :: .inLoop c :: k)) cs w) b k cs e a' w' := by
    intro m
    induction m using Nat.strongRecOn with
    | _ m ih =>
      intro x a w hm hx ha hw
      obtain ⟨e, a₁, w₁, ⟨s', H', ha', hw', hq⟩, harr⟩ := round x hx a w ha hw b (.inLoop c :: k) cs
      cases e with
      | normal =>
        obtain ⟨y, hy, hlt, hle, hh⟩ := hq
        obtain ⟨e₂, a₂, w₂, hq₂, harr₂⟩ := ih (μ y) (hm ▸ hlt) y a₁ w₁ rfl hy (ha'.le hle) (hh _ hw')
        exact ⟨e₂, a₂, w₂, hq₂, .of_steps (Steps.trans harr (.one step_inLoop)) harr₂⟩
      | exit id => exact ⟨_, a₁, w₁, ⟨s', H', ha', hw', hq⟩, .pass (x := .inLoop c) rfl (fun _ _ => .inl (by simp)) harr⟩
      | goto l => exact ⟨_, a₁, w₁, ⟨s', H', ha', hw', hq⟩, .pass (x := .inLoop c) rfl (fun _ _ => .inl (by simp)) harr⟩
      | ret => exact ⟨_, a₁, w₁, ⟨s', H', ha', hw', hq⟩, .pass (x := .inLoop c) rfl (fun _ _ => .inl (by simp)) harr⟩
      | panic ch => exact ⟨_, a₁, w₁, ⟨s', H', ha', hw', hq⟩, .pass (x := .inLoop c) rfl (fun _ _ => .inl (by simp)) harr⟩
      | outgrown => exact ⟨_, a₁, w₁, ⟨s', H', ha', hw', hq⟩, .pass (x := .inLoop c) rfl (fun _ _ => .inl (by simp)) harr⟩
  obtain ⟨e, a', w', hq, harr⟩ := key _ x0 a w rfl hI (ha.le hs) (hH w hw)
  exact ⟨e, a', w', hq, .of_steps (.one step_loop) harr⟩
end
end Go.Sx
namespace Go.Sx
open Go Go.RowKit Go.Fw
/-- The operation is carried out: it bears no guard, or its guard stands. -/
def Want (ops : Array Oper) (o : Oper) (s : Fm) : Prop := o.guard = none ∨ ∃ i b o' d, o.guard = some (i, b) ∧ ops[i]? = some o' ∧ o'.dst = some d ∧ look s d = some (.bool b)
def Skips (ops : Array Oper) (o : Oper) (s : Fm) : Prop := ∃ i b o' d, o.guard = some (i, !b) ∧ ops[i]? = some o' ∧ o'.dst = some d ∧ look s d = some (.bool b)
theorem tmp_of_getD {a : Act} {d : Nat} {v : Value} (h : a.tmps.getD d undef = v) (hv : v ≠ undef) : a.tmps[d]? = some v := by
  rw [Array.getD_eq_getD_getElem?] at h
  cases hd : a.tmps[d]? with
  | none => rw [hd] at h; exact absurd h.symm hv
  | some u => rw [hd] at h; exact congrArg some h
theorem bool_ne_undef (b : Bool) : Value.bool b ≠ undef := by intro h; cases h
theorem Want.wanted {ops : Array Oper} {o : Oper} {s : Fm} {n : Sz} {a : Act} (h : Want ops o s) (ha : Fr n s a) : Region.wanted o (yielded ops a.tmps) = true := by
  rcases h with h | ⟨i, b, o', d, hg, ho, hd, hl⟩
  · simp [Region.wanted, h]
  · have := tmp_of_getD (ha.has d _ hl) (bool_ne_undef b)
    simp [Region.wanted, hg, yielded, ho, hd, this]
theorem Skips.wanted {ops : Array Oper} {o : Oper} {s : Fm} {n : Sz} {a : Act} (h : Skips ops o s) (ha : Fr n s a) : Region.wanted o (yielded ops a.tmps) = false := by
  obtain ⟨i, b, o', d, hg, ho, hd, hl⟩ := h
  have := tmp_of_getD (ha.has d _ hl) (bool_ne_undef b)
  cases b <;> simp [Region.wanted, hg, yielded, ho, hd, this]
section
variable {P : Program} {G : Ctx} {n : Sz} {ops : Array Oper} {Q : Post} {s : Fm} {H : List Ent} {o : Oper} {rest : List Oper}
theorem sl_nil (h : AtQ Q .normal s H) : SL P G n ops Q [] s H := fun _ _ ha hw => ⟨s, H, ha, hw, h⟩
theorem sw_region {id : Nat} {l : List Oper} (h : SL P G n l.toArray Q l s H) : SW P G n (.region id l.toArray false) Q s H := fun a w ha hw => wp_region_lit (h a w ha hw)
theorem sl_op (hg : Want ops o s) (h : ∀ a w, Fr n s a → Holds G H w → ∀ K : Act → World → Prop, (∀ a' w', wpList P ops (lift G n Q) rest a' w' → K a' w') → o.wp P a w K (lift G n Q)) : SL P G n ops Q (o :: rest) s H := fun a w ha hw =>
  wpList_step fun K hK => by rw [if_pos (hg.wanted ha)]; exact h a w ha hw K hK
theorem sl_skip {d : Nat} (hg : ∀ a, Fr n s a → Region.wanted o (yielded ops a.tmps) = false) (h1 : o.dst = some d) (h2 : Nat.blt d n.n = true) (h : SL P G n ops Q rest ((d, undef) :: s) H) : SL P G n ops Q (o :: rest) s H := fun a w ha hw =>
  wpList_step fun K hK => by
    rw [if_neg (by rw [hg a ha]; decide)]
    have h3 : okDst n o.dst = true := by rw [h1]; exact h2
    have h4 : upd s o.dst undef = (d, undef) :: s := by rw [h1]; rfl
    rw [← h4] at h
    exact hK _ _ (h _ w (ha.put _ _ h3) hw)
theorem Skips.undef {ops : Array Oper} {o o' : Oper} {s : Fm} {n : Sz} {i j : Nat} {b : Bool} {a : Act} (hg : o.guard = some (i, b)) (ho : ops[i]? = some o') (hd : o'.dst = some j) (hl : look s j = some undef) (ha : Fr n s a) : Region.wanted o (yielded ops a.tmps) = false := by
  have h := ha.has j _ hl
  have hy : yielded ops a.tmps i = none := by
    unfold yielded
    simp only [ho, Option.bind_some, hd]
    rw [Array.getD_eq_getD_getElem?] at h
    cases hq : a.tmps[j]? with
    | none => rfl
    | some u => rw [hq] at h; simp only [Option.getD_some] at h; subst h; rfl
  simp [Region.wanted, hg, hy]
/-- The operation yields this value and leaves the world as it is. -/
def Yields (P : Program) (G : Ctx) (n : Sz) (s : Fm) (H : List Ent) (o : Oper) (v : Value) : Prop := ∀ a w, Fr n s a → Holds G H w → (execOp a.eval o).run P w = .ok (.value v) w
theorem okd {d : Nat} (h1 : o.dst = some d) (h2 : Nat.blt d n.n = true) : okDst n o.dst = true := by rw [h1]; exact h2
theorem updd {d : Nat} (h1 : o.dst = some d) (v : Value) : upd s o.dst v = (d, v) :: s := by rw [h1]; rfl
theorem sl_unguard {i d : Nat} {b : Bool} {o' : Oper} (hg : o.guard = some (i, b)) (ho : ops[i]? = some o') (hd : o'.dst = some d) (hl : look s d = some (.bool b)) (h : SL P G n ops Q ({ o with guard := none } :: rest) s H) : SL P G n ops Q (o :: rest) s H := fun a w ha hw => by
  have hwant : Region.wanted o (yielded ops a.tmps) = true := Want.wanted (.inr ⟨i, b, o', d, hg, ho, hd, hl⟩) ha
  have h' := h a w ha hw
  unfold wpList at h' ⊢
  rw [if_pos hwant]
  rw [if_pos (by simp [Region.wanted])] at h'
  exact h'
theorem sl_val {v : Value} {d : Nat} (hg : o.guard = none) (hy : Yields P G n s H o v) (h1 : o.dst = some d) (h2 : Nat.blt d n.n = true) (h : SL P G n ops Q rest ((d, v) :: s) H) : SL P G n ops Q (o :: rest) s H := by
  have hd := okd (n := n) h1 h2
  rw [← updd h1] at h
  replace hg : Want ops o s := .inl hg
  exact
  sl_op hg fun a w ha hw K hK => by
    unfold Oper.wp
    rw [hy a w ha hw]
    exact hK _ _ (h _ _ (ha.put _ _ hd) hw)
theorem run_value {s : Sem Value} {v : Value} {w : World} (h : s.run P w = .ok v w) : (do pure (Next.value (← s)) : Sem Next).run P w = .ok (.value v) w := by
  simp only [Sem.run_bind, h, Result.andThen_ok, Sem.run_pure]
theorem y_move {x : Operand} {v : Value} (ho : o.op = .move x) (hx : ev s x = some v) : Yields P G n s H o v := fun a w ha _ => by unfold execOp; rw [ho]; simp only [ha.ev hx, Sem.run_pure]
theorem y_assign {x : Operand} {v : Value} (ho : o.op = .assign x) (hx : ev s x = some v) : Yields P G n s H o v := fun a w ha _ => by unfold execOp; rw [ho]; simp only [ha.ev hx, Sem.run_pure]
theorem y_un {op : UnOp} {t : TypeId} {x : Operand} {vx v : Value} (ho : o.op = .unOp op t x) (hx : ev s x = some vx) (hs : still P (Op.unary op vx) = some v) : Yields P G n s H o v := fun a w ha _ => by
  unfold execOp; rw [ho]; simp only [ha.ev hx]; exact run_value (still_run _ _ hs w)
theorem y_extract {i : Nat} {x : Operand} {vx v : Value} (ho : o.op = .extract x i) (hx : ev s x = some vx) (hs : still P (Instr.extract vx i) = some v) : Yields P G n s H o v := fun a w ha _ => by
  unfold execOp; rw [ho]; simp only [ha.ev hx]; exact run_value (still_run _ _ hs w)
theorem y_nilCheck {x : Operand} {p : Addr} (ho : o.op = .nilCheck x) (hx : ev s x = some (.pointer (some p))) : Yields P G n s H o (.pointer (some p)) := fun a w ha _ => by
  unfold execOp; rw [ho]; simp only [ha.ev hx, Sem.run_pure]
theorem y_field {t : TypeId} {x : Operand} {i : Nat} {vx v : Value} (ho : o.op = .field t x i) (hx : ev s x = some vx) (hs : still P (Instr.field t vx i) = some v) : Yields P G n s H o v := fun a w ha _ => by
  unfold execOp; rw [ho]; simp only [ha.ev hx]; exact run_value (still_run _ _ hs w)
/-- The numbers of a kind. -/
def Fits : IntKind → Int → Prop
  | .i64, r => -9223372036854775808 ≤ r ∧ r ≤ 9223372036854775807
  | .u64, r => 0 ≤ r ∧ r ≤ 18446744073709551615
  | .u8, r => 0 ≤ r ∧ r ≤ 255
  | .i32, r => -2147483648 ≤ r ∧ r ≤ 2147483647
  | _, _ => False
theorem Fits.wrap {k : IntKind} {r : Int} (h : Fits k r) : k.wrap r = r := by
  cases k <;> simp only [Fits] at h
  case i64 => exact IntWalk.i64_in _ (by omega)
  case u64 => exact IntWalk.u64_in _ (by omega)
  case u8 => exact IntWalk.u8_in _ (by omega)
  case i32 => exact IntWalk.i32_in _ (by omega)
/-- A list, spelled out. -/
inductive NF : List Value → List Value → Prop where
  | nil {l : List Value} (h : l = []) : NF l []
  | cons {l r r' : List Value} {v : Value} (h : l = v :: r) (hr : NF r r') : NF l (v :: r')
  | keep (l : List Value) : NF l l
theorem NF.eq {l l' : List Value} (h : NF l l') : l = l' := by
  induction h with
  | nil h => exact h
  | cons h _ ih => rw [h, ih]
  | keep l => rfl
/-- The cells of a value. -/
inductive Cs : Value → List Value → Prop where
  | agg (l : List Value) : Cs (.agg l.toArray) l
  | one {v : Value} (h : v.oneCell' = true) : Cs v [v]
theorem Cs.cells {v : Value} {l : List Value} (h : Cs v l) : v.cells = l.toArray := by
  cases h with
  | agg l => rfl
  | one h => cases v <;> (first | rfl | cases h)
/-- The values of operands. -/
inductive Evs (s : Fm) : List Operand → List Value → Prop where
  | nil : Evs s [] []
  | cons {x : Operand} {v : Value} {l : List Operand} {r : List Value} (h : ev s x = some v) (hr : Evs s l r) : Evs s (x :: l) (v :: r)
theorem Evs.map {s : Fm} {l : List Operand} {r : List Value} (h : Evs s l r) {n : Sz} {a : Act} (ha : Fr n s a) : l.map a.eval = r := by
  induction h with
  | nil => rfl
  | cons h _ ih => rw [List.map_cons, ha.ev h, ih]
/-- A new variable. -/
theorem sl_box {elem : TypeId} {x : Operand} {v : Value} {cs : List Value} {d : Nat} (hg : o.guard = none) (ho : o.op = .box elem x) (hx : ev s x = some v) (hc : Cs v cs) (h1 : o.dst = some d) (h2 : Nat.blt d n.n = true)
    (h : ∀ b, SL P G n ops Q rest ((d, .pointer (some ⟨b, 0, none⟩)) :: s) (.blk b elem cs :: H)) : SL P G n ops Q (o :: rest) s H := by
  have hd := okd (n := n) h1 h2
  simp only [← updd h1] at h
  replace hg : Want ops o s := .inl hg
  exact
  sl_op hg fun a w ha hw K hK => by
    unfold Oper.wp execOp
    simp only [ho, ha.ev hx, Instr.box, newVar, newRow, newObj, hc.cells]
    exact hK _ _ (h _ _ _ (ha.put _ _ hd) (hw.alloc elem cs))
theorem sl_alloc {elem : TypeId} {z : Value} {cs : List Value} {d : Nat} (hg : o.guard = none) (ho : o.op = .alloc elem) (hz : still P (zeroValue elem) = some z) (hc : Cs z cs) (h1 : o.dst = some d) (h2 : Nat.blt d n.n = true)
    (h : ∀ b, SL P G n ops Q rest ((d, .pointer (some ⟨b, 0, none⟩)) :: s) (.blk b elem cs :: H)) : SL P G n ops Q (o :: rest) s H := by
  have hd := okd (n := n) h1 h2
  simp only [← updd h1] at h
  replace hg : Want ops o s := .inl hg
  exact
  sl_op hg fun a w ha hw K hK => by
    unfold Oper.wp execOp
    simp only [ho, Instr.alloc, newVar, newRow, newObj, Sem.run_bind, still_run _ _ hz w, Result.andThen_ok, hc.cells]
    exact hK _ _ (h _ _ _ (ha.put _ _ hd) (hw.alloc elem cs))
def rowB : TypeDesc → Bool
  | .struct _ | .array _ _ => true
  | _ => false
theorem run_isAgg {w : World} {t : TypeId} {d : TypeDesc} (hu : P.underlying t = some d) : (isAgg t).run P w = .ok (rowB d) w := by
  unfold isAgg
  simp only [Sem.run_bind, run_underlying hu, Result.andThen_ok]
  cases d <;> rfl
theorem run_load_cell {w : World} {t : TypeId} {d : TypeDesc} {p : Addr} {v : Value} (hu : P.underlying t = some d) (hr : rowB d = false) (hc : w.cell? p = some v) : (Instr.loadAt t (.pointer (some p))).run P w = .ok v w := by
  simp only [Instr.loadAt, Instr.sureAddr, loadVar, Sem.run_bind, Sem.run_pure, Result.andThen_ok, run_isAgg hu, hr]
  show (load p).run P w = _
  unfold load Sem.run
  simp only [hc, Sem.run]
theorem run_load_cells {w : World} {t : TypeId} {d : TypeDesc} {b o : Nat} {cs : List Value} (hu : P.underlying t = some d) (hr : rowB d = true) (hi : (P.info? t).map (·.size) = some cs.length) (hc : ∀ j v, cs[j]? = some v → w.cell? ⟨b, o + j, none⟩ = some v) :
    (Instr.loadAt t (.pointer (some ⟨b, o, none⟩))).run P w = .ok (.agg cs.toArray) w := by
  simp only [Instr.loadAt, Instr.sureAddr, Sem.run_bind, Sem.run_pure, Result.andThen_ok]
  exact run_loadVar_mid w b o t cs d hc hu (by cases d <;> simp_all [rowB, TypeDesc.isRow]) hi
/-- The place of element k. -/
def elemPtr (a : Option Addr) (k : Nat) : Value := .pointer (a.map (·.add k))
theorem At.someAt {w : World} {a : Option Addr} {xs : List Value} (h : At w a xs) (hx : 0 < xs.length) : ∃ b o, a = some ⟨b, o, none⟩ ∧ ∀ i, i < xs.length → w.cell? ⟨b, o + i, none⟩ = xs[i]? := by
  rcases h with h | ⟨b, o, ha, _, hc⟩
  · subst h; exact absurd hx (by simp)
  · exact ⟨b, o, ha, hc⟩
theorem y_indexAddr {t e : TypeId} {x y : Operand} {a : Option Addr} {len c sz : Nat} {k : IntKind} {i : Int} {xs : List Value} (ho : o.op = .indexAddr t x y) (hx : ev s x = some (.slice a len c)) (hy : ev s y = some (.int k i)) (hu : P.underlying t = some (.slice e)) (hi : (P.info? e).map (·.size) = some sz)
    (hr : Rd G H a xs) (hl : len ≤ xs.length) (h0 : 0 ≤ i) (h1 : i < len) : Yields P G n s H o (elemPtr a (i.toNat * sz)) := fun act w ha hw => by
  unfold execOp; rw [ho]; simp only [ha.ev hx, ha.ev hy]
  obtain ⟨b, off, rfl, -⟩ := At.someAt (hr w hw) (by omega)
  refine run_value ?_
  cases hq : P.info? e with
  | none => simp [hq] at hi
  | some inf =>
    have hs : inf.size = sz := by simpa [hq] using hi
    simp only [Instr.indexAt, asIntOf, Sem.run_bind, Sem.run_pure, Result.andThen_ok, run_underlying hu]
    rw [if_pos ⟨h0, h1⟩]
    simp only [sizeOf, typeInfo, Sem.run_bind, Sem.run_pure, Result.andThen_ok]
    simp [hq, hs, elemPtr, program, Sem.run]
/-- A field's place. -/
theorem y_fieldAddr {t : TypeId} {x : Operand} {b off fo i sz : Nat} {fs : Array Field} {f : Field} {p : Addr} (ho : o.op = .fieldAddr t x i) (hx : ev s x = some (.pointer (some ⟨b, off, none⟩))) (hu : P.underlying t = some (.struct fs)) (hf : fs[i]? = some f) (hfo : some f.offset = some fo) (hi : (P.info? f.type).map (·.size) = some (sz + 1)) (hp : p = ⟨b, off + fo, none⟩) :
    Yields P G n s H o (.pointer (some p)) := fun act w ha _ => by
  subst hp
  simp only [Option.some.injEq] at hfo
  subst hfo
  unfold execOp; rw [ho]; simp only [ha.ev hx]
  refine run_value ?_
  cases hq : P.info? f.type with
  | none => simp [hq] at hi
  | some inf =>
    have hs : inf.size = sz + 1 := by simpa [hq] using hi
    simp [Instr.fieldAt, run_underlying hu, hf, Instr.sureAddr, fieldPlace, sizeOf, typeInfo, program, Sem.run, hq, hs, Addr.add_mid]
/-- A store into a block that the call holds. -/
theorem sl_store {t t' : TypeId} {x y : Operand} {b off : Nat} {cs cs' : List Value} {v : Value} {H' : List Ent} (hg : o.guard = none) (ho : o.op = .store t x y) (hx : ev s x = some (.pointer (some ⟨b, off, none⟩))) (hy : ev s y = some v) (hp : Pick (.blk b t' cs) H H') (h1 : v.oneCell' = true)
    (hi : (P.info? t).map (·.size) = some 1) (hl : off < cs.length) (hn : NF (cs.set off v) cs') (hd : o.dst = none) (h : SL P G n ops Q rest s (.blk b t' cs' :: H')) : SL P G n ops Q (o :: rest) s H :=
  sl_op (.inl hg) fun a w ha hw K hK => by
    have hw := hw.pick hp
    have hrow := (hw.ok _ List.mem_cons_self).2
    unfold Oper.wp execOp
    simp only [ho, ha.ev hx, ha.ev hy]
    cases hq : P.info? t with
    | none => simp [hq] at hi
    | some inf =>
      have hs : inf.size = 1 := by simpa [hq] using hi
      have hcell : w.cell? ⟨b, off, none⟩ = some cs[off] := (row_cell hrow).trans (List.getElem?_eq_getElem hl)
      have hfz : w.frozen? ⟨b, off, none⟩ = false := row_free hrow
      have hcs : v.cells = #[v] := by cases v <;> (first | rfl | cases h1)
      have hrun : (Instr.storeAt t (.pointer (some ⟨b, off, none⟩)) v).run P w = .ok () (w.setCell ⟨b, off, none⟩ v) := by
        simp only [Instr.storeAt, Instr.sureAddr, storeVar, hcs, Sem.run_bind, Sem.run_pure, Result.andThen_ok, sizeOf, typeInfo, program]
        simp only [Sem.run, hq, hs, Result.andThen_ok, Sem.run_pure]
        simp only [List.size_toArray, List.length_cons, List.length_nil, Nat.zero_add, ne_eq, not_true_eq_false, if_false, storeCells, store, Addr.add_mid, Nat.add_zero]
        cases v <;> (first | (cases h1; done) | simp [Sem.run, hcell, hfz, Sem.bind, bind, pure])
      simp only [Sem.run_bind, hrun, Result.andThen_ok]
      have hw' : Holds G (.blk b t' cs' :: H') (w.setCell ⟨b, off, none⟩ v) := by
        rw [← hn.eq]
        exact hw.set (row_set v hrow) (fun k hk => Below.heap_setCell w _ v k hk) (by simp [World.setCell]) rfl rfl rfl
      exact hK _ _ (h _ _ (by rw [hd]; exact ha) hw')
theorem sl_store_whole {t t' : TypeId} {x y : Operand} {b : Nat} {cs cs' : List Value} {H' : List Ent} (hg : o.guard = none) (ho : o.op = .store t x y) (hx : ev s x = some (.pointer (some ⟨b, 0, none⟩))) (hy : ev s y = some (.agg cs'.toArray)) (hp : Pick (.blk b t' cs) H H') (h1 : cs'.all (·.oneCell') = true)
    (hi : (P.info? t).map (·.size) = some cs'.length) (hl : cs.length = cs'.length) (hd : o.dst = none) (h : SL P G n ops Q rest s (.blk b t' cs' :: H')) : SL P G n ops Q (o :: rest) s H :=
  sl_op (.inl hg) fun a w ha hw K hK => by
    have hw := hw.pick hp
    have hrow := (hw.ok _ List.mem_cons_self).2
    unfold Oper.wp execOp
    simp only [ho, ha.ev hx, ha.ev hy, Instr.storeAt, Instr.sureAddr, Sem.run_bind, Sem.run_pure, Result.andThen_ok, run_storeVar_row w b t' t cs.toArray cs'.toArray hrow (by simpa using hi) (by simpa using hl) (all_oneCell_toArray (by simpa using h1))]
    have hw' : Holds G (.blk b t' cs' :: H') (w.setRow b cs'.toArray) := hw.set (setRow_heap w b _ _ t' (0, 0) hrow) (fun k hk => setRow_other w b k _ hk) (by simp [World.setRow]) rfl rfl rfl
    exact hK _ _ (h _ _ (by rw [hd]; exact ha) hw')
end
end Go.Sx
namespace Go.Sx
open Go Go.RowKit Go.Fw
/-- Function f has a body and is entered. -/
def Callee (P : Program) (f : FuncId) : Prop := ∀ args w, (callFunc f args).run P w = .ok (.enter f args) w
theorem callee_of {P : Program} {f : FuncId} {fn : Func} (hf : P.funcs[f]? = some fn) (hn : (fn.name == "runtime.NumGoroutine") = false) (hb : fn.body.isNone = false) : Callee P f := fun args w => by
  simp only [callFunc, program, Sem.run_bind, Sem.run, Result.andThen_ok, hf, hn, hb]
  simp [Sem.run]
/-- A contract: with these arguments and this much held, the call returns. -/
def SC (P : Program) (G : Ctx) (f : FuncId) (args : List Value) (H : List Ent) (R : Value → List Ent → Prop) : Prop :=
  Callee P f ∧ ∀ w, Holds G H w → Calls P f args.toArray w fun e w' => ∃ v H', e = .returned v ∧ Holds G H' w' ∧ R v H'
theorem SC.mono {P : Program} {G : Ctx} {f : FuncId} {args : List Value} {H : List Ent} {R R' : Value → List Ent → Prop} (h : SC P G f args H R) (hr : ∀ v H', R v H' → R' v H') : SC P G f args H R' :=
  ⟨h.1, fun w hw => (h.2 w hw).mono fun _ _ ⟨v, H', he, hw', q⟩ => ⟨v, H', he, hw', hr _ _ q⟩⟩
section
variable {P : Program} {G : Ctx} {n : Sz} {ops : Array Oper} {Q : Post} {s : Fm} {H : List Ent} {o : Oper} {rest : List Oper}
theorem run_call {f : FuncId} {xs : Array Operand} {ats : Array TypeId} {vs : List Value} {a : Act} {w : World} (ho : o.op = .call { callee := .value (.func f), args := xs, argTypes := ats }) (he : Evs s xs.toList vs) (hc : Callee P f) (ha : Fr n s a) : (execOp a.eval o).run P w = .ok (.enter f vs.toArray) w := by
  have e1 : xs.map a.eval = vs.toArray := by
    rw [← he.map ha, ← List.map_toArray, Array.toArray_toList]
  have e2 : execOp a.eval o = callFunc f (#[] ++ xs.map a.eval ++ #[]) := by
    cases o; simp only at ho; subst ho; rfl
  rw [e2, e1]
  simpa using hc vs.toArray w
theorem sl_call {f : FuncId} {xs : Array Operand} {ats : Array TypeId} {vs : List Value} {R : Value → List Ent → Prop} {d : Nat} (hg : o.guard = none) (ho : o.op = .call { callee := .value (.func f), args := xs, argTypes := ats }) (he : Evs s xs.toList vs) (hc : SC P G f vs H R) (h1d : o.dst = some d) (h2d : Nat.blt d n.n = true)
    (h : ∀ v H', R v H' → SL P G n ops Q rest ((d, v) :: s) H') : SL P G n ops Q (o :: rest) s H := by
  have hd := okd (n := n) h1d h2d
  simp only [← updd h1d] at h
  replace hg : Want ops o s := .inl hg
  exact
  sl_op hg fun a w ha hw K hK => by
    unfold Oper.wp
    rw [run_call ho he hc.1 ha]
    exact (hc.2 w hw).mono fun e w' ⟨v, H', he, hw', q⟩ => by subst he; exact hK _ _ (h v H' q _ _ (ha.put _ _ hd) hw')
/-- A call that yields one value and leaves what is held. -/
def SV (P : Program) (G : Ctx) (f : FuncId) (args : List Value) (H : List Ent) (v : Value) : Prop := SC P G f args H fun u H' => u = v ∧ H' = H
theorem sl_callv {f : FuncId} {xs : Array Operand} {ats : Array TypeId} {vs : List Value} {v : Value} {d : Nat} (hg : o.guard = none) (ho : o.op = .call { callee := .value (.func f), args := xs, argTypes := ats }) (he : Evs s xs.toList vs) (hc : SV P G f vs H v) (h1d : o.dst = some d) (h2d : Nat.blt d n.n = true)
    (h : SL P G n ops Q rest ((d, v) :: s) H) : SL P G n ops Q (o :: rest) s H := sl_call hg ho he hc h1d h2d fun _ _ ⟨e1, e2⟩ => by subst e1; subst e2; exact h
/-- A slice literal. -/
theorem sl_buildSlice {t e : TypeId} {len sz : Nat} {parts : Array (Nat × Operand)} {vs cs : List Value} {d : Nat} (hg : o.guard = none) (ho : o.op = .buildSlice t len parts) (he : Evs s (parts.toList.map (·.2)) vs) (hu : P.underlying t = some (.slice e)) (hi : (P.info? e).map (·.size) = some sz)
    (hb : builtSlice P e len ((parts.toList.map (·.1)).zip vs) = some cs.toArray) (hl : cs.length = len * sz) (hm : len ≤ 1000) (h1d : o.dst = some d) (h2d : Nat.blt d n.n = true)
    (h : ∀ b, SL P G n ops Q rest ((d, .slice (some ⟨b, 0, none⟩) len len) :: s) (.own e sz (some ⟨b, 0, none⟩) len len cs :: H)) : SL P G n ops Q (o :: rest) s H := by
  have hd := okd (n := n) h1d h2d
  simp only [← updd h1d] at h
  replace hg : Want ops o s := .inl hg
  exact
  sl_op hg fun a w ha hw K hK => by
    have hp : ((parts.map fun (i, x) => (i, a.eval x)).toList) = (parts.toList.map (·.1)).zip vs := by
      rw [Array.toList_map, ← he.map ha]
      generalize parts.toList = l
      induction l with
      | nil => rfl
      | cons x l ih => obtain ⟨i, x⟩ := x; simp only [List.map_cons, List.zip_cons_cons, ih]
    unfold Oper.wp execOp
    simp only [ho, Sem.run_bind, run_buildSlice w t e len _ cs.toArray hu (by rw [hp]; exact hb), Result.andThen_ok]
    have hw2 := hw.alloc e cs
    have hw3 : Holds G (.own e sz (some ⟨w.heap.size, 0, none⟩) len len cs :: H) (w.alloc (.cells cs.toArray e)) := by
      refine ⟨hw2.below, hw2.base, fun x hx => ?_, List.pairwise_cons.2 ⟨fun y hy k hk => (List.pairwise_cons.1 hw2.apart).1 y hy k hk, (List.pairwise_cons.1 hw2.apart).2⟩⟩
      rcases List.mem_cons.1 hx with rfl | hx
      · have := hw2.ok _ List.mem_cons_self
        exact ⟨hl, .inr ⟨w.heap.size, len, cs.toArray, rfl, this.1, this.2, Nat.le_refl _, by unfold maxLen; omega, by simpa using hl, by rw [← hl]; simp⟩⟩
      · exact hw2.ok x (List.mem_cons_of_mem _ hx)
    exact hK _ _ (h _ _ _ (ha.put _ _ hd) hw3)
theorem Holds.nilrow {w : World} (h : Holds G H w) (e : TypeId) (sz : Nat) : Holds G (.own e sz none 0 0 [] :: H) w := by
  refine ⟨h.below, h.base, fun x hx => ?_, List.pairwise_cons.2 ⟨fun y hy k hk => (by cases hk), h.apart⟩⟩
  rcases List.mem_cons.1 hx with rfl | hx
  · exact World.ownsRow_nil _ _ _ _
  · exact h.ok x hx
theorem run_append_zero {w : World} {B : Nat} {t ty e : TypeId} {i : TypeInfo} {sz len c c2 : Nat} {a a2 : Option Addr} {xs : List Value} (ht : P.underlying t = some (.slice e)) (hi : P.info? e = some i) (hown : w.ownsRow B e sz (.slice a len c) len xs) :
    (Builtin.append_ #[t, t] ty #[.slice a len c, .slice a2 0 c2]).run P w = .ok (.slice a len c) w := by
  rcases hown.2 with ⟨hv, rfl⟩ | ⟨g, cap, cur, hv, _, _, hnc, _⟩
  · simp only [Value.slice.injEq, true_and] at hv
    obtain ⟨rfl, rfl⟩ := hv
    cases a2 <;> simp [Builtin.append_, run_underlying ht, sizeOf, typeInfo, hi, Builtin.lenOf, Builtin.firstCells, loadCells, loadCellsFrom]
  · obtain ⟨rfl, rfl⟩ : a = some ⟨g, 0, none⟩ ∧ c = cap := by simpa [Value.slice.injEq] using hv
    cases a2 <;> simp [Builtin.append_, run_underlying ht, sizeOf, typeInfo, hi, Builtin.lenOf, Builtin.firstCells, loadCells, loadCellsFrom, hnc, storeCells]
theorem run_append_any {w : World} {B : Nat} {t ty e : TypeId} {i : TypeInfo} {z : Value} {len c m c2 : Nat} {a : Option Addr} {ad : Addr} {xs news : List Value} (ht : P.underlying t = some (.slice e)) (hi : P.info? e = some i) (hz : i.zero = some z) (hzs : z.cells.size = i.size) (hsz : 0 < i.size)
    (hown : w.ownsRow B e i.size (.slice a len c) len xs) (hl : news.length = m * i.size) (hnews : ∀ j u, news[j]? = some u → w.cell? (ad.add j) = some u) (h1 : ∀ u ∈ news, u.oneCell' = true) (h63 : len + m ≤ maxLen) (hb : (len + m) * i.bytes ≤ 140737488355328) (hbase : B ≤ w.heap.size) (hm : 0 < m) :
    ∃ a' c' w', (Builtin.append_ #[t, t] ty #[.slice a len c, .slice (some ad) m c2]).run P w = .ok (.slice a' (len + m) c') w' ∧ w'.ownsRow B e i.size (.slice a' (len + m) c') (len + m) (xs ++ news) ∧ w.grownBy w' (Value.slice a len c).ownBlock ∧
      (∀ k, (Value.slice a' (len + m) c').ownBlock = some k → some k = (Value.slice a len c).ownBlock ∨ w.heap.size ≤ k) := by
  obtain ⟨v', w', hr, ho, hg, -⟩ := run_append_own (P := P) w B t ty e i z i.size i.bytes ht hi hz rfl rfl hzs hsz _ len xs hown ad m c2 news hl hnews h1 h63 hb hbase
  have h63' : len + m ≤ 9223372036854775807 := by simp only [maxLen] at h63; omega
  rcases hown.2 with ⟨hv, h0⟩ | ⟨g, cap, cur, hv, hbg, hcells, hnc, hcm, hcs, htake⟩
  · subst h0
    obtain ⟨rfl, rfl⟩ : a = none ∧ c = 0 := by simpa [Value.slice.injEq] using hv
    have hr2 := run_append_nil (P := P) (w := w) t ty e i z ht hi hz ad m c2 news hl hnews hm (by omega) (by rw [Nat.zero_add] at hb; omega)
    rw [hr2] at hr
    injection hr with e1 e2
    rw [← e1] at ho
    rw [Nat.zero_add] at ho ⊢
    exact ⟨_, _, w', by rw [hr2, e2], ho, hg, fun k hk => .inr (by simp only [Value.ownBlock, Option.some.injEq] at hk; omega)⟩
  · obtain ⟨rfl, rfl⟩ : a = some ⟨g, 0, none⟩ ∧ c = cap := by simpa [Value.slice.injEq] using hv
    by_cases hroom : len + m ≤ c
    · have hr2 := run_append_room (P := P) w t ty e i ht hi g len c cur hcells ad m c2 news hl hnews h1 hroom (by rw [hl, hcs, ← Nat.add_mul]; exact Nat.mul_le_mul_right _ hroom)
      rw [hr2] at hr
      injection hr with e1 e2
      rw [← e1] at ho
      exact ⟨_, _, w', by rw [hr2, e2], ho, hg, fun k hk => .inl hk.symm⟩
    · have hr2 := run_append_grow (P := P) (w := w) t ty e i z ht hi hz ⟨g, 0, none⟩ len c xs hown.1 (hown.cells (g := g) rfl) ad m c2 news hl hnews (by omega) (by omega) (growslice_fits (by omega) hb)
      rw [hr2] at hr
      injection hr with e1 e2
      rw [← e1] at ho
      exact ⟨_, _, w', by rw [hr2, e2], ho, hg, fun k hk => .inr (by simp only [Value.ownBlock, Option.some.injEq] at hk; omega)⟩
/-- append, onto a row that the call holds. -/
theorem sl_append {x y : Operand} {t e : TypeId} {a a2 : Option Addr} {len c m c2 sz bytes : Nat} {z : Value} {xs news : List Value} {H' : List Ent} {d : Nat} (hg : o.guard = none) (ho : o.op = .call { callee := .builtin .append, args := #[x, y], argTypes := #[t, t] })
    (hx : ev s x = some (.slice a len c)) (hp : Pick (.own e sz a len c xs) H H') (hy : ev s y = some (.slice a2 m c2)) (hr : Rd G H a2 news) (ht : P.underlying t = some (.slice e)) (hi : (P.info? e).map (fun i => (i.zero, i.size, i.bytes)) = some (some z, sz, bytes))
    (hzs : z.cells.size = sz) (hsz : 0 < sz) (hby : 0 < bytes) (hl : news.length = m * sz) (h1 : ∀ u ∈ news, u.oneCell' = true) (hb : (len + m) * bytes ≤ 140737488355328) (h1d : o.dst = some d) (h2d : Nat.blt d n.n = true)
    (h : ∀ a' c', SL P G n ops Q rest ((d, .slice a' (len + m) c') :: s) (.own e sz a' (len + m) c' (xs ++ news) :: H')) : SL P G n ops Q (o :: rest) s H := fun act w ha hw => by
  have hd := okd (n := n) h1d h2d
  simp only [← updd h1d] at h
  replace hg : Want ops o s := .inl hg
  have hwp := hw.pick hp
  have hown : w.ownsRow G.B e sz (.slice a len c) len xs := hwp.ok _ List.mem_cons_self
  obtain ⟨i0, hi0, hz0, hz1, hz2⟩ := info_parts hi
  have hlen : len + m ≤ 140737488355328 := Nat.le_trans (Nat.le_mul_of_pos_right _ hby) hb
  have fin : ∀ a' c' w', w'.ownsRow G.B e sz (.slice a' (len + m) c') (len + m) (xs ++ news) → w.grownBy w' (Value.slice a len c).ownBlock → (∀ k, (Value.slice a' (len + m) c').ownBlock = some k → some k = (Value.slice a len c).ownBlock ∨ w.heap.size ≤ k) → wpList P ops (lift G n Q) rest (act.put o.dst (.slice a' (len + m) c')) w' := by
    intro a' c' w' ho' hgr hk
    have hw' : Holds G H' w' := hwp.drop.stepped _ hgr (fun k hk => (World.ownsRow.lt hown k hk).1) (fun x hx k hk e => (List.pairwise_cons.1 hwp.apart).1 x hx k e hk)
    refine h a' c' _ _ (ha.put _ _ hd) ⟨hw'.below, hw'.base, fun x hx => ?_, List.pairwise_cons.2 ⟨fun y hy k hky => ?_, hw'.apart⟩⟩
    · rcases List.mem_cons.1 hx with rfl | hx
      · exact ho'
      · exact hw'.ok x hx
    · intro hyk
      rcases hk k hky with e1 | e1
      · exact (List.pairwise_cons.1 hwp.apart).1 y hy k e1.symm hyk
      · have := (Ent.ok_lt (hwp.ok y (List.mem_cons_of_mem _ hy)) hyk).2
        omega
  refine wpList_step fun K hK => ?_
  rw [if_pos (hg.wanted ha)]
  unfold Oper.wp execOp
  simp only [ho, resolve, invoke, builtin, Sem.run_bind, Sem.run_pure, Result.andThen_ok, List.map_toArray, List.map_cons, List.map_nil, ha.ev hx, ha.ev hy]
  rcases Nat.eq_zero_or_pos m with hm | hm
  · subst hm
    have e0 : news = [] := List.eq_nil_of_length_eq_zero (by simpa using hl)
    subst e0
    simp only [run_append_zero ht hi0 hown, Result.andThen_ok]
    refine hK _ _ (fin a c w ?_ ⟨rfl, rfl, rfl, Nat.le_refl _, fun _ _ _ => rfl⟩ fun k hk => .inl hk.symm)
    rw [Nat.add_zero, List.append_nil]
    exact hown
  · obtain ⟨b, off, rfl, hc⟩ := At.someAt (hr w hw) (by rw [hl]; exact Nat.mul_pos hm hsz)
    subst hz1
    subst hz2
    obtain ⟨a', c', w', hrun, h2, h3, h4⟩ := run_append_any (ty := o.type) (c2 := c2) ht hi0 hz0 hzs hsz hown hl (fun j u hj => by rw [Addr.add_mid]; exact (hc j (List.getElem?_eq_some_iff.1 hj).1).trans hj) h1 (by unfold maxLen; omega) hb hwp.base hm
    simp only [hrun, Result.andThen_ok]
    exact hK _ _ (fin a' c' w' h2 h3 h4)
/-- A region that draws its order, all of whose operations leave what is held. -/
def SQ (P : Program) (G : Ctx) (n : Sz) (ops : Array Oper) (Q : Fm → Prop) (H : List Ent) (l : List Oper) (s : Fm) : Prop := ∀ a, Fr n s a → wpQuiet P ops (fun w => Holds G H w) (fun a' => ∃ s', Fr n s' a' ∧ Q s') l a
theorem sq_nil {Q : Fm → Prop} (h : Q s) : SQ P G n ops Q H [] s := fun _ ha => ⟨s, ha, h⟩
theorem sq_val {Q : Fm → Prop} {v : Value} {d : Nat} (hg : o.guard = none) (hy : Yields P G n s H o v) (h1d : o.dst = some d) (h2d : Nat.blt d n.n = true) (h : SQ P G n ops Q H rest ((d, v) :: s)) : SQ P G n ops Q H (o :: rest) s := fun a ha => by
  have hd := okd (n := n) h1d h2d
  simp only [← updd h1d] at h
  replace hg : Want ops o s := .inl hg
  refine wpQuiet_step fun K hK => ?_
  rw [if_pos (hg.wanted ha)]
  refine ⟨v, fun w hw => ?_, hK _ (h _ (ha.put _ _ hd))⟩
  unfold Oper.quietAt
  rw [hy a w ha hw]
  exact ⟨rfl, rfl⟩
theorem sq_call {Q : Fm → Prop} {f : FuncId} {xs : Array Operand} {ats : Array TypeId} {vs : List Value} {v : Value} {d : Nat} (hg : o.guard = none) (ho : o.op = .call { callee := .value (.func f), args := xs, argTypes := ats }) (he : Evs s xs.toList vs) (hc : SV P G f vs H v) (h1d : o.dst = some d) (h2d : Nat.blt d n.n = true)
    (h : SQ P G n ops Q H rest ((d, v) :: s)) : SQ P G n ops Q H (o :: rest) s := fun a ha => by
  have hd := okd (n := n) h1d h2d
  simp only [← updd h1d] at h
  replace hg : Want ops o s := .inl hg
  refine wpQuiet_step fun K hK => ?_
  rw [if_pos (hg.wanted ha)]
  refine ⟨v, fun w hw => ?_, hK _ (h _ (ha.put _ _ hd))⟩
  unfold Oper.quietAt
  rw [run_call ho he hc.1 ha]
  refine ⟨rfl, (hc.2 w hw).mono fun e w' ⟨u, H', he, hw', e1, e2⟩ => ?_⟩
  subst e1; subst e2
  exact ⟨he, hw'⟩
theorem sq_unguard {Q : Fm → Prop} {i d : Nat} {b : Bool} {o' : Oper} (hg : o.guard = some (i, b)) (ho : ops[i]? = some o') (hd : o'.dst = some d) (hl : look s d = some (.bool b)) (h : SQ P G n ops Q H ({ o with guard := none } :: rest) s) : SQ P G n ops Q H (o :: rest) s := fun a ha => by
  have hwant : Region.wanted o (yielded ops a.tmps) = true := Want.wanted (.inr ⟨i, b, o', d, hg, ho, hd, hl⟩) ha
  have h' := h a ha
  unfold wpQuiet at h' ⊢
  rw [if_pos hwant]
  rw [if_pos (by simp [Region.wanted])] at h'
  exact h'
theorem sq_skip {Q : Fm → Prop} {d : Nat} (hg : ∀ a, Fr n s a → Region.wanted o (yielded ops a.tmps) = false) (h1 : o.dst = some d) (h2 : Nat.blt d n.n = true) (h : SQ P G n ops Q H rest ((d, undef) :: s)) : SQ P G n ops Q H (o :: rest) s := fun a ha => by
  refine wpQuiet_step fun K hK => ?_
  rw [if_neg (by rw [hg a ha]; decide)]
  rw [← updd h1] at h
  exact hK _ (h _ (ha.put _ _ (okd h1 h2)))
theorem sw_drawn {id : Nat} {l : List Oper} (hm : P.follows .mixedOrders = true) (hB : Region.lexB .any l.toArray = true) (h : SQ P G n l.toArray (fun s' => AtQ Q .normal s' H) H l s) : SW P G n (.region id l.toArray true) Q s H := fun a w ha hw =>
  wp_region_quiet (C := fun w => Holds G H w) hm hB hw.drew (by
    have hmono : ∀ (l' : List Oper) a, wpQuiet P l.toArray (fun w => Holds G H w) (fun a' => ∃ s', Fr n s' a' ∧ AtQ Q .normal s' H) l' a → wpQuiet P l.toArray (fun w => Holds G H w) (fun a' => ∀ w', Holds G H w' → lift G n Q .normal a' w') l' a := by
      intro l'
      induction l' with
      | nil => exact fun a ⟨s', hs', hq⟩ w' hw' => ⟨s', H, hs', hw', hq⟩
      | cons o r ih =>
        intro a hh
        unfold wpQuiet at hh ⊢
        split
        · rename_i hwn; rw [if_pos hwn] at hh; obtain ⟨v, h1, h2⟩ := hh; exact ⟨v, h1, ih _ h2⟩
        · rename_i hwn; rw [if_neg hwn] at hh; exact ih _ hh
    simpa using hmono l a (h a ha))
/-- The results. -/
inductive Res (s : Fm) (H : List Ent) (P : Program) : List ResultVar → List Value → Prop where
  | nil : Res s H P [] []
  | tmp {t : Nat} {v : Value} {l : List ResultVar} {vs : List Value} (h : look s t = some v) (hr : Res s H P l vs) : Res s H P (.tmp t :: l) (v :: vs)
  | agg {p b : Nat} {t t' : TypeId} {d : TypeDesc} {cs : List Value} {l : List ResultVar} {vs : List Value} (h : look s p = some (.pointer (some ⟨b, 0, none⟩))) (hm : Ent.blk b t' cs ∈ H) (hu : P.underlying t = some d) (hrow : rowB d = true) (hi : (P.info? t).map (·.size) = some cs.length) (hr : Res s H P l vs) : Res s H P (.cell p t :: l) (.agg cs.toArray :: vs)
  | cell {p b : Nat} {t t' : TypeId} {d : TypeDesc} {v : Value} {l : List ResultVar} {vs : List Value} (h : look s p = some (.pointer (some ⟨b, 0, none⟩))) (hm : Ent.blk b t' [v] ∈ H) (hu : P.underlying t = some d) (hrow : rowB d = false) (hr : Res s H P l vs) : Res s H P (.cell p t :: l) (v :: vs)
def resV : List Value → Value
  | [v] => v
  | vs => .tuple vs.toArray
def rget (tmps : Array Value) : ResultVar → Sem Value
  | .tmp t => pure (tmps.getD t undef)
  | .cell p t => do loadVar t (← asAddr (tmps.getD p undef))
theorem Res.run {rs : List ResultVar} {vs : List Value} (h : Res s H P rs vs) {a : Act} {w : World} (ha : Fr n s a) (hw : Holds G H w) : (rs.mapM (rget a.tmps)).run P w = .ok vs w := by
  have step : ∀ (r : ResultVar) (v : Value) (l : List ResultVar) (vs : List Value), (rget a.tmps r).run P w = .ok v w → (l.mapM (rget a.tmps)).run P w = .ok vs w → ((r :: l).mapM (rget a.tmps)).run P w = .ok (v :: vs) w := by
    intro r v l vs h1 h2
    simp only [List.mapM_cons, Sem.run_bind, h1, h2, Result.andThen_ok, Sem.run_pure]
  induction h with
  | nil => rfl
  | tmp h _ ih => exact step _ _ _ _ (by simp only [rget, ha.has _ _ h, Sem.run_pure]) ih
  | agg h hm hu hrow hi _ ih =>
    refine step _ _ _ _ ?_ ih
    have := run_load_cells (P := P) (w := w) hu hrow hi fun j v hj => by rw [Nat.zero_add]; exact (row_cell (hw.ok _ hm).2).trans hj
    simp only [Instr.loadAt, Instr.sureAddr, Sem.run_bind, Sem.run_pure, Result.andThen_ok] at this
    simp only [rget, ha.has _ _ h, asAddr, Sem.run_bind, Sem.run_pure, Result.andThen_ok, this]
  | cell h hm hu hrow _ ih =>
    refine step _ _ _ _ ?_ ih
    have := run_load_cell (P := P) (w := w) hu hrow ((row_cell (i := 0) (hw.ok _ hm).2).trans rfl)
    simp only [Instr.loadAt, Instr.sureAddr, Sem.run_bind, Sem.run_pure, Result.andThen_ok] at this
    simp only [rget, ha.has _ _ h, asAddr, Sem.run_bind, Sem.run_pure, Result.andThen_ok, this]
/-- What a function's end owes. -/
def fpost (G : Ctx) (P : Program) (rs : List ResultVar) (R : Value → List Ent → Prop) : Post
  | .normal, s, H | .ret, s, H => ∃ vs H', Res s H P rs vs ∧ (∀ w, Holds G H w → Holds G H' w) ∧ R (resV vs) H'
  | _, _, _ => False
theorem run_results {fn : Func} {rs : List ResultVar} {vs : List Value} (hrs : fn.results = rs.toArray) (h : Res s H P rs vs) {a : Act} {w : World} (ha : Fr n s a) (hw : Holds G H w) : (results fn a.tmps).run P w = .ok (resV vs) w := by
  have e : results fn a.tmps = (do let vs ← fn.results.mapM (rget a.tmps); pure (if h : vs.size = 1 then vs[0] else .tuple vs)) := by
    have er : (fun | .tmp t => pure (a.tmps.getD t undef) | .cell p t => do loadVar t (← asAddr (a.tmps.getD p undef)) : ResultVar → Sem Value) = rget a.tmps := by funext r; cases r <;> rfl
    rw [← er]
    rfl
  rw [e, hrs, List.mapM_toArray]
  simp only [Sem.run_bind, Sem.run_map, h.run ha hw, Result.andThen_ok, Sem.run_pure]
  cases vs with
  | nil => rfl
  | cons v r => cases r <;> rfl
theorem at_fpost {rs : List ResultVar} {R : Value → List Ent → Prop} {vs : List Value} {H' : List Ent} (e : Exit) (he : e = .normal ∨ e = .ret) (hr : Res s H P rs vs) (hH : ∀ w, Holds G H w → Holds G H' w) (h : R (resV vs) H') : AtQ (fpost G P rs R) e s H := by
  rcases he with rfl | rfl <;> exact ⟨vs, H', hr, hH, h⟩
theorem at_thn {y : Code} (h : SW P G n y Q s H) : AtQ (thn (SW P G n y Q) Q) .normal s H := h
theorem at_thn_ret {next : Fm → List Ent → Prop} (h : AtQ Q .ret s H) : AtQ (thn next Q) .ret s H := h
theorem at_thn_exit {next : Fm → List Ent → Prop} {id : Nat} (h : AtQ Q (.exit id) s H) : AtQ (thn next Q) (.exit id) s H := h
theorem at_inb {id : Nat} (h : AtQ Q .normal s H) : AtQ (inb id Q) .normal s H := h
theorem at_inb_ret {id : Nat} (h : AtQ Q .ret s H) : AtQ (inb id Q) .ret s H := h
theorem at_inb_exit {id : Nat} (h : AtQ Q .normal s H) : AtQ (inb id Q) (.exit id) s H := by show (if id = id then Q .normal s H else Q (.exit id) s H); rw [if_pos rfl]; exact h
theorem at_inb_pass {id id' : Nat} (hne : Nat.beq id' id = false) (h : AtQ Q (.exit id') s H) : AtQ (inb id Q) (.exit id') s H := by
  show (if id' = id then Q .normal s H else Q (.exit id') s H); rw [if_neg (fun e => by subst e; rw [Nat.beq_refl] at hne; cases hne)]; exact h
end
/-- The slots of the arguments. -/
def ini : List Value → Nat → Fm
  | [], _ => []
  | v :: r, i => (i, v) :: ini r (i + 1)
theorem look_ini (l : List Value) : ∀ (k i : Nat) (v : Value), look (ini l k) i = some v → k ≤ i ∧ l[i - k]? = some v := by
  induction l with
  | nil => intro k i v h; simp [ini, look] at h
  | cons x l ih =>
    intro k i v h
    simp only [ini, look] at h
    cases hb : Nat.beq i k with
    | true =>
      rw [hb, cond_true, Option.some.injEq] at h
      have := Nat.eq_of_beq_eq_true hb
      subst this; subst h
      simp
    | false =>
      rw [hb, cond_false] at h
      obtain ⟨h1, h2⟩ := ih (k + 1) i v h
      refine ⟨by omega, ?_⟩
      rw [show i - k = (i - (k + 1)) + 1 from by omega]
      exact h2
theorem sc_enter {P : Program} {G : Ctx} {f : FuncId} {fn : Func} {c : Code} {n : Nat} {args : List Value} {H : List Ent} {R : Value → List Ent → Prop} {rs : List ResultVar} (hf : P.funcs[f]? = some fn) (hb : fn.body = some c) (hn : (fn.name == "runtime.NumGoroutine") = false) (hnt : some fn.ntmps = some n) (hrs : fn.results = rs.toArray) (hl : Nat.ble args.length n = true)
    (h : SW P G n c (fpost G P rs R) (ini args 0) H) : SC P G f args H R := by
  refine ⟨callee_of hf hn (by rw [hb]; rfl), fun w hw => calls_of_wp hf hb ?_⟩
  have hl' : args.length ≤ n := Nat.le_of_ble_eq_true hl
  refine wp_mono (h _ w ⟨rfl, ?_, fun i v hi => ?_⟩ hw) fun e a' w' ⟨s', H', ha', hw', hq⟩ => ?_
  · have hnt := Option.some.inj hnt
    simp [hnt]; omega
  · obtain ⟨-, h2⟩ := look_ini _ _ _ _ hi
    rw [Nat.sub_zero] at h2
    have hlt := (List.getElem?_eq_some_iff.1 h2).1
    simp only [Array.getD_eq_getD_getElem?, Array.getElem?_append, List.size_toArray, hlt, if_true, List.getElem?_toArray, h2, Option.getD_some]
  · cases e with
    | normal => obtain ⟨vs, H2, h1, h2, h3⟩ := hq; exact ⟨ha'.defers, _, run_results hrs h1 ha' hw', _, H2, rfl, h2 _ hw', h3⟩
    | ret => obtain ⟨vs, H2, h1, h2, h3⟩ := hq; exact ⟨ha'.defers, _, run_results hrs h1 ha' hw', _, H2, rfl, h2 _ hw', h3⟩
    | _ => exact hq.elim
theorem sc_enter1 {P : Program} {G : Ctx} {f : FuncId} {fn : Func} {c : Code} {n : Nat} {v0 : Value} {H : List Ent} {R : Value → List Ent → Prop} {rs : List ResultVar} (hf : P.funcs[f]? = some fn) (hb : fn.body = some c) (hn : (fn.name == "runtime.NumGoroutine") = false) (hnt : some fn.ntmps = some n) (hrs : fn.results = rs.toArray) (hl : Nat.ble 1 n = true)
    (h : SW P G n c (fpost G P rs R) [(0, v0)] H) : SC P G f [v0] H R := sc_enter hf hb hn hnt hrs hl h
theorem sc_enter2 {P : Program} {G : Ctx} {f : FuncId} {fn : Func} {c : Code} {n : Nat} {v0 v1 : Value} {H : List Ent} {R : Value → List Ent → Prop} {rs : List ResultVar} (hf : P.funcs[f]? = some fn) (hb : fn.body = some c) (hn : (fn.name == "runtime.NumGoroutine") = false) (hnt : some fn.ntmps = some n) (hrs : fn.results = rs.toArray) (hl : Nat.ble 2 n = true)
    (h : SW P G n c (fpost G P rs R) [(0, v0), (1, v1)] H) : SC P G f [v0, v1] H R := sc_enter hf hb hn hnt hrs hl h
theorem sc_enter3 {P : Program} {G : Ctx} {f : FuncId} {fn : Func} {c : Code} {n : Nat} {v0 v1 v2 : Value} {H : List Ent} {R : Value → List Ent → Prop} {rs : List ResultVar} (hf : P.funcs[f]? = some fn) (hb : fn.body = some c) (hn : (fn.name == "runtime.NumGoroutine") = false) (hnt : some fn.ntmps = some n) (hrs : fn.results = rs.toArray) (hl : Nat.ble 3 n = true)
    (h : SW P G n c (fpost G P rs R) [(0, v0), (1, v1), (2, v2)] H) : SC P G f [v0, v1, v2] H R := sc_enter hf hb hn hnt hrs hl h
theorem sc_enter4 {P : Program} {G : Ctx} {f : FuncId} {fn : Func} {c : Code} {n : Nat} {v0 v1 v2 v3 : Value} {H : List Ent} {R : Value → List Ent → Prop} {rs : List ResultVar} (hf : P.funcs[f]? = some fn) (hb : fn.body = some c) (hn : (fn.name == "runtime.NumGoroutine") = false) (hnt : some fn.ntmps = some n) (hrs : fn.results = rs.toArray) (hl : Nat.ble 4 n = true)
    (h : SW P G n c (fpost G P rs R) [(0, v0), (1, v1), (2, v2), (3, v3)] H) : SC P G f [v0, v1, v2, v3] H R := sc_enter hf hb hn hnt hrs hl h
theorem sc_enter5 {P : Program} {G : Ctx} {f : FuncId} {fn : Func} {c : Code} {n : Nat} {v0 v1 v2 v3 v4 : Value} {H : List Ent} {R : Value → List Ent → Prop} {rs : List ResultVar} (hf : P.funcs[f]? = some fn) (hb : fn.body = some c) (hn : (fn.name == "runtime.NumGoroutine") = false) (hnt : some fn.ntmps = some n) (hrs : fn.results = rs.toArray) (hl : Nat.ble 5 n = true)
    (h : SW P G n c (fpost G P rs R) [(0, v0), (1, v1), (2, v2), (3, v3), (4, v4)] H) : SC P G f [v0, v1, v2, v3, v4] H R := sc_enter hf hb hn hnt hrs hl h
/-- The end of a function that hands back one value and nothing new. -/
theorem at_sv {P : Program} {G : Ctx} {s : Fm} {H H0 : List Ent} {rs : List ResultVar} {vs : List Value} {v : Value} (e : Exit) (he : e = .normal ∨ e = .ret) (hr : Res s H P rs vs) (hH : H0.Sublist H) (h : resV vs = v) : AtQ (fpost G P rs fun u H' => u = v ∧ H' = H0) e s H :=
  at_fpost e he hr (fun _ hw => hw.sub hH) ⟨h, rfl⟩
theorem at_sc {P : Program} {G : Ctx} {s : Fm} {H H' : List Ent} {rs : List ResultVar} {vs : List Value} {R : Value → List Ent → Prop} (e : Exit) (he : e = .normal ∨ e = .ret) (hr : Res s H P rs vs) (hH : H'.Sublist H) (h : R (resV vs) H') : AtQ (fpost G P rs R) e s H :=
  at_fpost e he hr (fun _ hw => hw.sub hH) h
end Go.Sx
namespace Go.Sx
open Go Go.RowKit Go.Fw
/-- A type of one cell. -/
class Sc (P : Program) (t : TypeId) : Prop where
  here : ∃ d, P.underlying t = some d ∧ rowB d = false ∧ (P.info? t).map (·.size) = some 1
/-- A struct or an array of so many cells. -/
class Ag (P : Program) (t : TypeId) (sz : outParam Nat) : Prop where
  here : ∃ d, P.underlying t = some d ∧ rowB d = true ∧ (P.info? t).map (·.size) = some sz
/-- A field's place. -/
class FieldAt (P : Program) (t i : Nat) (off : outParam Nat) : Prop where
  here : ∃ fs f sz, P.underlying t = some (.struct fs) ∧ fs[i]? = some f ∧ f.offset = off ∧ (P.info? f.type).map (·.size) = some (sz + 1)
/-- A slice's elements. -/
class SliceT (P : Program) (t : TypeId) (e sz bytes : outParam Nat) : Prop where
  here : P.underlying t = some (.slice e) ∧ 0 < sz ∧ 0 < bytes ∧ ∃ z, (P.info? e).map (fun i => (i.zero, i.size, i.bytes)) = some (some z, sz, bytes) ∧ z.cells.size = sz
/-- An array's elements. -/
class ArrT (P : Program) (t : TypeId) (len e sz : outParam Nat) : Prop where
  here : P.underlying t = some (.array len e) ∧ (P.info? e).map (·.size) = some sz
/-- A type's zero. -/
class ZeroT (P : Program) (t : TypeId) (cs : outParam (List Value)) : Prop where
  here : ∃ z, still P (zeroValue t) = some z ∧ Cs z cs
class IntT (P : Program) (t : TypeId) (k : outParam IntKind) : Prop where
  here : P.underlying t = some (.int k)
class StrT (P : Program) (t : TypeId) : Prop where
  here : P.underlying t = some .string
class Wide (P : Program) : Prop where
  here : P.follows .mixedOrders = true
/-- What is held of a block; of a row; and what is left when it is taken out. -/
class HasBlk (H : List Ent) (b : Nat) (t : outParam TypeId) (cs : outParam (List Value)) : Prop where
  here : Ent.blk b t cs ∈ H
instance (priority := low) hasBlkTail {H : List Ent} {b : Nat} {t : TypeId} {cs : List Value} {e : Ent} [h : HasBlk H b t cs] : HasBlk (e :: H) b t cs := ⟨List.mem_cons_of_mem _ h.here⟩
instance hasBlkHead {H : List Ent} {b : Nat} {t : TypeId} {cs : List Value} : HasBlk (.blk b t cs :: H) b t cs := ⟨List.mem_cons_self⟩
class PickBlk (H : List Ent) (b : Nat) (t : outParam TypeId) (cs : outParam (List Value)) (H' : outParam (List Ent)) : Prop where
  here : Pick (.blk b t cs) H H'
instance (priority := low) pickBlkTail {H H' : List Ent} {b : Nat} {t : TypeId} {cs : List Value} {e : Ent} [h : PickBlk H b t cs H'] : PickBlk (e :: H) b t cs (e :: H') := ⟨.there h.here⟩
instance pickBlkHead {H : List Ent} {b : Nat} {t : TypeId} {cs : List Value} : PickBlk (.blk b t cs :: H) b t cs H := ⟨.here _⟩
class PickOwn (H : List Ent) (a : Option Addr) (e : outParam TypeId) (sz n c : outParam Nat) (xs : outParam (List Value)) (H' : outParam (List Ent)) : Prop where
  here : Pick (.own e sz a n c xs) H H'
instance (priority := low) pickOwnTail {H H' : List Ent} {a : Option Addr} {e : TypeId} {sz n c : Nat} {xs : List Value} {x : Ent} [h : PickOwn H a e sz n c xs H'] : PickOwn (x :: H) a e sz n c xs (x :: H') := ⟨.there h.here⟩
instance pickOwnHead {H : List Ent} {a : Option Addr} {e : TypeId} {sz n c : Nat} {xs : List Value} : PickOwn (.own e sz a n c xs :: H) a e sz n c xs H := ⟨.here _⟩
/-- What can be read at an address. -/
class RdC (G : Ctx) (H : List Ent) (a : Option Addr) (xs : outParam (List Value)) : Prop where
  here : Rd G H a xs
instance (priority := low) rdTail {G : Ctx} {H : List Ent} {a : Option Addr} {xs : List Value} {e : Ent} [h : RdC G H a xs] : RdC G (e :: H) a xs := ⟨h.here.cons⟩
instance rdOwn {G : Ctx} {H : List Ent} {a : Option Addr} {e : TypeId} {sz n c : Nat} {xs : List Value} : RdC G (.own e sz a n c xs :: H) a xs := ⟨Rd.mem List.mem_cons_self⟩
instance rdBlk {G : Ctx} {H : List Ent} {b : Nat} {t : TypeId} {cs : List Value} : RdC G (.blk b t cs :: H) (some ⟨b, 0, none⟩) cs := ⟨Rd.blk List.mem_cons_self⟩
/-- The same, told by functions that spell their answers out. -/
def evs (s : Fm) : List Operand → Option (List Value)
  | [] => some []
  | x :: l => match ev s x with
    | none => none
    | some v => match evs s l with
      | none => none
      | some vs => some (v :: vs)
theorem evs_of {s : Fm} : ∀ {l : List Operand} {vs : List Value}, evs s l = some vs → Evs s l vs
  | [], vs, h => by simp only [evs, Option.some.injEq] at h; subst h; exact .nil
  | x :: l, vs, h => by
    unfold evs at h
    split at h
    · cases h
    · rename_i v hv
      split at h
      · cases h
      · rename_i vs' hvs
        simp only [Option.some.injEq] at h
        subst h
        exact .cons hv (evs_of hvs)
def set? : List Value → Nat → Value → Option (List Value)
  | [], _, _ => none
  | _ :: l, 0, v => some (v :: l)
  | x :: l, k + 1, v => match set? l k v with
    | none => none
    | some l' => some (x :: l')
theorem set?_eq : ∀ {l : List Value} {k : Nat} {v : Value} {l' : List Value}, set? l k v = some l' → l.set k v = l' ∧ k < l.length
  | [], _, _, _, h => by cases h
  | x :: l, 0, v, l', h => by simp only [set?, Option.some.injEq] at h; subst h; simp
  | x :: l, k + 1, v, l', h => by
    unfold set? at h
    split at h
    · cases h
    · rename_i r hr
      obtain ⟨h1, h2⟩ := set?_eq hr
      simp only [Option.some.injEq] at h
      subst h
      simp [h1, h2]
def take? : List Value → Nat → Option (List Value)
  | _, 0 => some []
  | [], _ + 1 => none
  | x :: l, k + 1 => match take? l k with
    | none => none
    | some l' => some (x :: l')
theorem take?_eq : ∀ {l : List Value} {k : Nat} {l' : List Value}, take? l k = some l' → l.take k = l' ∧ k ≤ l.length
  | l, 0, l', h => by
    simp only [take?, Option.some.injEq] at h
    subst h
    exact ⟨List.take_zero, Nat.zero_le _⟩
  | [], k + 1, l', h => by cases h
  | x :: l, k + 1, l', h => by
    unfold take? at h
    split at h
    · cases h
    · rename_i r hr
      obtain ⟨h1, h2⟩ := take?_eq hr
      simp only [Option.some.injEq] at h
      subst h
      simp [h1, h2]
def cells? : Value → Option (List Value)
  | .agg ⟨l⟩ => some l
  | .tuple _ => none
  | v => some [v]
theorem cells?_eq {v : Value} {l : List Value} (h : cells? v = some l) : Cs v l := by
  unfold cells? at h
  split at h
  · simp only [Option.some.injEq] at h; subst h; exact .agg _
  · cases h
  · rename_i h1 h2
    simp only [Option.some.injEq] at h
    subst h
    exact .one (by cases v <;> (first | rfl | exact absurd rfl (h1 _) | exact absurd rfl (h2 _)))
def res? (s : Fm) : List ResultVar → Option (List Value)
  | [] => some []
  | .tmp t :: l => match look s t with
    | none => none
    | some v => match res? s l with
      | none => none
      | some vs => some (v :: vs)
  | .cell _ _ :: _ => none
theorem res?_of {s : Fm} {H : List Ent} {P : Program} : ∀ {l : List ResultVar} {vs : List Value}, res? s l = some vs → Res s H P l vs
  | [], vs, h => by simp only [res?, Option.some.injEq] at h; subst h; exact .nil
  | .cell _ _ :: l, vs, h => by cases h
  | .tmp t :: l, vs, h => by
    unfold res? at h
    split at h
    · cases h
    · rename_i v hv
      split at h
      · cases h
      · rename_i vs' hvs
        simp only [Option.some.injEq] at h
        subst h
        exact .tmp hv (res?_of hvs)
section
variable {P : Program} {G : Ctx} {n : Sz} {ops : Array Oper} {Q : Post} {s : Fm} {H : List Ent} {o : Oper} {rest : List Oper}
theorem SliceT.size {t e sz bytes : Nat} (h : SliceT P t e sz bytes) : (P.info? e).map (·.size) = some sz := by
  obtain ⟨-, -, -, z, hz, -⟩ := h.here
  cases hq : P.info? e with
  | none => rw [hq] at hz; cases hz
  | some i => rw [hq] at hz; simp only [Option.map_some, Option.some.injEq, Prod.mk.injEq] at hz ⊢; exact hz.2.1
theorem c_indexAddr {t e sz bytes : Nat} {x y : Operand} {a : Option Addr} {len c : Nat} {k : IntKind} {i : Int} {xs : List Value} (ho : o.op = .indexAddr t x y) [h : SliceT P t e sz bytes] (hx : ev s x = some (.slice a len c)) (hy : ev s y = some (.int k i)) [hr : RdC G H a xs] (hl : xs.length = len * sz) (h0 : 0 ≤ i) (h1 : i < len) :
    Yields P G n s H o (elemPtr a (i.toNat * sz)) := by
  obtain ⟨hu, hsz, -, -⟩ := h.here
  exact y_indexAddr ho hx hy hu h.size hr.here (by rw [hl]; exact Nat.le_mul_of_pos_right _ hsz) h0 h1
theorem c_field0 {t i fo : Nat} {x : Operand} {b : Nat} (ho : o.op = .fieldAddr t x i) [h : FieldAt P t i fo] (hx : ev s x = some (.pointer (some ⟨b, 0, none⟩))) : Yields P G n s H o (.pointer (some ⟨b, fo, none⟩)) := by
  obtain ⟨fs, f, sz, h1, h2, h3, h4⟩ := h.here
  exact y_fieldAddr ho hx h1 h2 rfl h4 (by rw [h3, Nat.zero_add])
theorem c_field {t i fo : Nat} {x : Operand} {b off : Nat} (ho : o.op = .fieldAddr t x i) [h : FieldAt P t i fo] (hx : ev s x = some (.pointer (some ⟨b, off, none⟩))) : Yields P G n s H o (.pointer (some ⟨b, off + fo, none⟩)) := by
  obtain ⟨fs, f, sz, h1, h2, h3, h4⟩ := h.here
  exact y_fieldAddr ho hx h1 h2 rfl h4 (by rw [h3])
theorem c_store {t t' : TypeId} {x y : Operand} {b off : Nat} {cs cs' : List Value} {v : Value} {H' : List Ent} (hg : o.guard = none) (ho : o.op = .store t x y) [h : Sc P t] (hx : ev s x = some (.pointer (some ⟨b, off, none⟩))) (hy : ev s y = some v) [hp : PickBlk H b t' cs H'] (h1 : v.oneCell' = true)
    (hn : set? cs off v = some cs') (hd : o.dst = none) (hk : SL P G n ops Q rest s (.blk b t' cs' :: H')) : SL P G n ops Q (o :: rest) s H := by
  obtain ⟨d, -, -, h3⟩ := h.here
  obtain ⟨e1, e2⟩ := set?_eq hn
  exact sl_store hg ho hx hy hp.here h1 h3 e2 (by rw [e1]; exact .keep _) hd hk
theorem c_storek {t t' : TypeId} {x y : Operand} {b off : Nat} {cs : List Value} {v : Value} {H' : List Ent} (hg : o.guard = none) (ho : o.op = .store t x y) [h : Sc P t] (hx : ev s x = some (.pointer (some ⟨b, off, none⟩))) (hy : ev s y = some v) [hp : PickBlk H b t' cs H'] (h1 : v.oneCell' = true)
    (hl : off < cs.length) (hd : o.dst = none) (hk : SL P G n ops Q rest s (.blk b t' (cs.set off v) :: H')) : SL P G n ops Q (o :: rest) s H := by
  obtain ⟨d, -, -, h3⟩ := h.here
  exact sl_store hg ho hx hy hp.here h1 h3 hl (.keep _) hd hk
theorem c_storew {t t' sz : Nat} {x y : Operand} {b : Nat} {cs cs' : List Value} {H' : List Ent} (hg : o.guard = none) (ho : o.op = .store t x y) [h : Ag P t sz] (hx : ev s x = some (.pointer (some ⟨b, 0, none⟩))) (hy : ev s y = some (.agg cs'.toArray)) [hp : PickBlk H b t' cs H'] (h1 : cs'.all (·.oneCell') = true)
    (hl' : Nat.beq cs'.length sz = true) (hl2' : Nat.beq cs.length sz = true) (hd : o.dst = none) (hk : SL P G n ops Q rest s (.blk b t' cs' :: H')) : SL P G n ops Q (o :: rest) s H := by
  obtain ⟨d, -, -, h3⟩ := h.here
  have hl := Nat.eq_of_beq_eq_true hl'
  have hl2 := Nat.eq_of_beq_eq_true hl2'
  exact sl_store_whole hg ho hx hy hp.here h1 (by rw [h3, hl]) (by rw [hl, hl2]) hd hk
theorem c_box {elem : TypeId} {x : Operand} {v : Value} {cs : List Value} {d : Nat} (hg : o.guard = none) (ho : o.op = .box elem x) (hx : ev s x = some v) (hc : cells? v = some cs) (h1 : o.dst = some d) (h2 : Nat.blt d n.n = true)
    (h : ∀ b, SL P G n ops Q rest ((d, .pointer (some ⟨b, 0, none⟩)) :: s) (.blk b elem cs :: H)) : SL P G n ops Q (o :: rest) s H := sl_box hg ho hx (cells?_eq hc) h1 h2 h
theorem c_alloc {t : TypeId} {cs : List Value} {d : Nat} (hg : o.guard = none) (ho : o.op = .alloc t) [hz : ZeroT P t cs] (h1 : o.dst = some d) (h2 : Nat.blt d n.n = true)
    (h : ∀ b, SL P G n ops Q rest ((d, .pointer (some ⟨b, 0, none⟩)) :: s) (.blk b t cs :: H)) : SL P G n ops Q (o :: rest) s H := by
  obtain ⟨z, e1, e2⟩ := hz.here
  exact sl_alloc hg ho e1 e2 h1 h2 h
theorem c_call {f d : Nat} {xs : Array Operand} {ats : Array TypeId} {vs : List Value} {R : Value → List Ent → Prop} (hg : o.guard = none) (ho : o.op = .call { callee := .value (.func f), args := xs, argTypes := ats }) (he : evs s xs.toList = some vs) (hc : SC P G f vs H R) (h1 : o.dst = some d) (h2 : Nat.blt d n.n = true)
    (h : ∀ v H', R v H' → SL P G n ops Q rest ((d, v) :: s) H') : SL P G n ops Q (o :: rest) s H := sl_call hg ho (evs_of he) hc h1 h2 h
theorem c_callv {f d : Nat} {xs : Array Operand} {ats : Array TypeId} {vs : List Value} {v : Value} (hg : o.guard = none) (ho : o.op = .call { callee := .value (.func f), args := xs, argTypes := ats }) (he : evs s xs.toList = some vs) (hc : SV P G f vs H v) (h1 : o.dst = some d) (h2 : Nat.blt d n.n = true)
    (h : SL P G n ops Q rest ((d, v) :: s) H) : SL P G n ops Q (o :: rest) s H := sl_callv hg ho (evs_of he) hc h1 h2 h
theorem c_callq {Q : Fm → Prop} {f d : Nat} {xs : Array Operand} {ats : Array TypeId} {vs : List Value} {v : Value} (hg : o.guard = none) (ho : o.op = .call { callee := .value (.func f), args := xs, argTypes := ats }) (he : evs s xs.toList = some vs) (hc : SV P G f vs H v) (h1 : o.dst = some d) (h2 : Nat.blt d n.n = true)
    (h : SQ P G n ops Q H rest ((d, v) :: s)) : SQ P G n ops Q H (o :: rest) s := sq_call hg ho (evs_of he) hc h1 h2 h
theorem e_sv {H0 : List Ent} {rs : List ResultVar} {vs : List Value} {v : Value} {e : Exit} (he : e = .normal ∨ e = .ret) (hr : res? s rs = some vs) (hH : H0.Sublist H) (h : resV vs = v) : AtQ (fpost G P rs fun u H' => u = v ∧ H' = H0) e s H := at_sv e he (res?_of hr) hH h
theorem e_sc {R : Value → List Ent → Prop} {rs : List ResultVar} {vs : List Value} {e : Exit} (H' : List Ent) (he : e = .normal ∨ e = .ret) (hr : res? s rs = some vs) (hH : H'.Sublist H) (h : R (resV vs) H') : AtQ (fpost G P rs R) e s H := at_sc e he (res?_of hr) hH h
/-- A slice literal all of whose elements are told, in their order, each of one cell. -/
def countUp : List Nat → Nat → Bool
  | [], _ => true
  | i :: r, k => Nat.beq i k && countUp r (k + 1)
theorem fill_one (z : Value) : ∀ (vs pre : List Value) (k : Nat), pre.length = k → (∀ v ∈ vs, v.oneCell' = true) →
    Instr.fill (fun i => some (i * 1, 1)) (pre ++ List.replicate vs.length z).toArray ((List.range' k vs.length).zip vs) = some (pre ++ vs).toArray := by
  intro vs
  induction vs with
  | nil => intro pre k _ _; simp [Instr.fill]
  | cons v vs ih =>
    intro pre k hk h1
    have hv := h1 v List.mem_cons_self
    have hc : v.cells = #[v] := by cases v <;> (first | rfl | cases hv)
    simp only [List.length_cons, List.range'_succ, List.zip_cons_cons, Instr.fill, hc]
    have e : (pre ++ List.replicate (vs.length + 1) z).toArray.setIfInBounds k v = ((pre ++ [v]) ++ List.replicate vs.length z).toArray := by
      rw [List.setIfInBounds_toArray, List.set_append_right _ _ (by omega), show k - pre.length = 0 from by omega, List.replicate_succ, List.set_cons_zero]
      simp
    have h2 := ih (pre ++ [v]) (k + 1) (by simp [hk]) fun u hu => h1 u (List.mem_cons_of_mem _ hu)
    rw [if_neg (by simp; omega)]
    have e3 : (Array.zipIdx #[v]).foldl (fun cs x => cs.setIfInBounds (k * 1 + x.2) x.1) (pre ++ List.replicate (vs.length + 1) z).toArray = ((pre ++ [v]) ++ List.replicate vs.length z).toArray := by
      rw [← e]; simp
    rw [e3, h2]
    simp
theorem countUp_range : ∀ (l : List Nat) (k : Nat), countUp l k = true → l = List.range' k l.length := by
  intro l
  induction l with
  | nil => intro k _; rfl
  | cons i l ih =>
    intro k h
    simp only [countUp, Bool.and_eq_true] at h
    rw [List.length_cons, List.range'_succ, ← ih (k + 1) h.2, Nat.eq_of_beq_eq_true h.1]
theorem Evs.length {l : List Operand} {vs : List Value} (h : Evs s l vs) : vs.length = l.length := by
  induction h with
  | nil => rfl
  | cons _ _ ih => simp [ih]
theorem c_buildSlice {t e bytes len d : Nat} {parts : Array (Nat × Operand)} {vs : List Value} (hg : o.guard = none) (ho : o.op = .buildSlice t len parts) [h : SliceT P t e 1 bytes] (he' : evs s (parts.toList.map (·.2)) = some vs) (hc : countUp (parts.toList.map (·.1)) 0 = true) (hl : parts.toList.length = len) (h0 : Nat.blt 0 len = true) (hm : Nat.ble len 1000 = true) (h1 : vs.all (·.oneCell') = true)
    (h1d : o.dst = some d) (h2d : Nat.blt d n.n = true) (hk : ∀ b, SL P G n ops Q rest ((d, .slice (some ⟨b, 0, none⟩) len len) :: s) (.own e 1 (some ⟨b, 0, none⟩) len len vs :: H)) : SL P G n ops Q (o :: rest) s H := by
  have he := evs_of he'
  obtain ⟨hu, -, -, z, hz, hzs⟩ := h.here
  have hlen : vs.length = len := by rw [he.length, List.length_map, hl]
  have hpos : 0 < len := by simpa [Nat.blt_eq] using h0
  have hle := Nat.le_of_ble_eq_true hm
  refine sl_buildSlice hg ho he hu h.size ?_ (by omega) hle h1d h2d hk
  cases hq : P.info? e with
  | none => rw [hq] at hz; cases hz
  | some i =>
    rw [hq] at hz
    simp only [Option.map_some, Option.some.injEq, Prod.mk.injEq] at hz
    obtain ⟨hz0, hz1, hz2⟩ := hz
    unfold builtSlice
    simp only [hq, hz0, hz1]
    rw [if_neg (by omega)]
    have hidx := countUp_range _ _ hc
    rw [List.length_map, hl] at hidx
    rw [hidx]
    have hz' : ∃ u, z.cells = #[u] := by
      have := Array.size_eq_one_iff.1 hzs
      exact this
    obtain ⟨u, hu'⟩ := hz'
    have := fill_one u vs [] 0 rfl (by simpa using h1)
    rw [hlen] at this
    rw [hu']
    have e4 : (Array.range (len * 1)).map (fun x => #[u][x % #[u].size]!) = ([] ++ List.replicate len u).toArray := by
      apply Array.ext'
      simp only [Array.toList_map, Nat.mul_one, List.nil_append]
      apply List.ext_getElem
      · simp
      · intro j h1 h2
        simp [Nat.mod_one]
    rw [e4, this]
    simp
theorem c_append {x y : Operand} {t e sz bytes d : Nat} {a a2 : Option Addr} {len c m c2 : Nat} {xs news : List Value} {H' : List Ent} (hg : o.guard = none) (ho : o.op = .call { callee := .builtin .append, args := #[x, y], argTypes := #[t, t] })
    [hT : SliceT P t e sz bytes] (hx : ev s x = some (.slice a len c)) [hp : PickOwn H a e sz len c xs H'] (hy : ev s y = some (.slice a2 m c2)) [hr : RdC G H a2 news] (hl : news.length = m * sz) (h1 : news.all (·.oneCell') = true) (hb : (len + m) * bytes ≤ 140737488355328) (h1d : o.dst = some d) (h2d : Nat.blt d n.n = true)
    (h : ∀ a' c', SL P G n ops Q rest ((d, .slice a' (len + m) c') :: s) (.own e sz a' (len + m) c' (xs ++ news) :: H')) : SL P G n ops Q (o :: rest) s H := by
  obtain ⟨hu, hsz, hby, z, hz, hzs⟩ := hT.here
  exact sl_append hg ho hx hp.here hy hr.here hu hz hzs hsz hby hl (by simpa using h1) hb h1d h2d h
theorem sl_heap {H' : List Ent} {l : List Oper} (hH : ∀ w, Holds G H w → Holds G H' w) (h : SL P G n ops Q l s H') : SL P G n ops Q l s H := fun a w ha hw => h a w ha (hH w hw)
/-- The length of a slice, of a string. -/
theorem y_len {t e : TypeId} {x : Operand} {a : Option Addr} {len c : Nat} (ho : o.op = .call { callee := .builtin .len, args := #[x], argTypes := #[t] }) (hu : P.underlying t = some (.slice e)) (hx : ev s x = some (.slice a len c)) : Yields P G n s H o (.int .i64 len) := fun act w ha _ => by
  unfold execOp; rw [ho]
  simp only [resolve, invoke, builtin, Sem.run_bind, Sem.run_pure, Result.andThen_ok, List.map_toArray, List.map_cons, List.map_nil, ha.ev hx]
  simp [Builtin.len_, run_underlying hu, goInt]
theorem y_len_str {t : TypeId} {x : Operand} {b : ByteArray} (ho : o.op = .call { callee := .builtin .len, args := #[x], argTypes := #[t] }) (hu : P.underlying t = some .string) (hx : ev s x = some (.string b)) : Yields P G n s H o (.int .i64 b.size) := fun act w ha _ => by
  unfold execOp; rw [ho]
  simp only [resolve, invoke, builtin, Sem.run_bind, Sem.run_pure, Result.andThen_ok, List.map_toArray, List.map_cons, List.map_nil, ha.ev hx]
  simp [Builtin.len_, run_underlying hu, goInt]
theorem c_len {t e sz bytes : Nat} {x : Operand} {a : Option Addr} {len c : Nat} (ho : o.op = .call { callee := .builtin .len, args := #[x], argTypes := #[t] }) [h : SliceT P t e sz bytes] (hx : ev s x = some (.slice a len c)) : Yields P G n s H o (.int .i64 len) := y_len ho h.here.1 hx
theorem c_len_str {t : TypeId} {x : Operand} {b : ByteArray} (ho : o.op = .call { callee := .builtin .len, args := #[x], argTypes := #[t] }) [h : StrT P t] (hx : ev s x = some (.string b)) : Yields P G n s H o (.int .i64 b.size) := y_len_str ho h.here hx
/-- Whole numbers from one kind to another. -/
theorem c_conv {src dst : TypeId} {k k' : IntKind} {x : Operand} {m : Int} (ho : o.op = .convert src dst x) [h1 : IntT P src k'] [h2 : IntT P dst k] (hx : ev s x = some (.int k' m)) (hf : Fits k m) : Yields P G n s H o (.int k m) := fun a w ha _ => by
  unfold execOp; rw [ho]; simp only [ha.ev hx]
  refine run_value ?_
  simp only [convert, Sem.run_bind, run_underlying h1.here, run_underlying h2.here, Result.andThen_ok, Conv.intToInt, Sem.run_pure, hf.wrap]
theorem c_drawn {id : Nat} {l : List Oper} [h : Wide P] (hB : Region.lexB .any l.toArray = true) (hk : SQ P G n l.toArray (fun s' => AtQ Q .normal s' H) H l s) : SW P G n (.region id l.toArray true) Q s H := sw_drawn h.here hB hk
end
theorem octs_one (xs : List Int) : (octs xs).all (·.oneCell') = true := by simp [octs, Value.oneCell']
theorem strs_one (xs : List ByteArray) : (strs xs).all (·.oneCell') = true := by simp [strs, Value.oneCell']
section
variable {P : Program} {G : Ctx} {n : Sz} {ops : Array Oper} {Q : Post} {s : Fm} {H : List Ent} {rest : List Oper} {d : Option Tmp} {ty : TypeId} {pos : String} {af : Array Edge}
theorem g_sl {l : List Oper} (h : SL P G n ops Q l s H) : SL P G n ops Q l s H := h
theorem g_sq {Q : Fm → Prop} {l : List Oper} (h : SQ P G n ops Q H l s) : SQ P G n ops Q H l s := h
end
section
variable {P : Program} {G : Ctx} {n : Sz} {ops : Array Oper} {Q : Post} {s : Fm} {H : List Ent} {o : Oper} {rest : List Oper}
theorem sl_skip_u {i j d : Nat} {b : Bool} {o' : Oper} (hg : o.guard = some (i, b)) (ho : ops[i]? = some o') (hd : o'.dst = some j) (hl : look s j = some undef) (h1 : o.dst = some d) (h2 : Nat.blt d n.n = true) (h : SL P G n ops Q rest ((d, undef) :: s) H) : SL P G n ops Q (o :: rest) s H := sl_skip (fun _ ha => Skips.undef hg ho hd hl ha) h1 h2 h
end
theorem rb_t {p : Prop} [Decidable p] (h : p) : resV [.bool true] = .bool (decide p) := by simp [resV, h]
theorem rb_f {p : Prop} [Decidable p] (h : ¬ p) : resV [.bool false] = .bool (decide p) := by simp [resV, h]
theorem rb_d {p q : Prop} [Decidable p] [Decidable q] (h : q ↔ p) : resV [.bool (decide q)] = .bool (decide p) := by simp [resV, h]
end Go.Sx
namespace Go.Sx
open Go Go.RowKit Go.Fw
@[irreducible] def iand (p q : Int) : Int := ((p.toNat &&& q.toNat : Nat) : Int)
@[irreducible] def ibits (op : BinOp) (k : IntKind) (p q : Int) : Int := bits op k p q
theorem iand_eq (p q : Int) : iand p q = ((p.toNat &&& q.toNat : Nat) : Int) := by unfold iand; rfl
theorem ibits_eq (op : BinOp) (k : IntKind) (p q : Int) : ibits op k p q = bits op k p q := by unfold ibits; rfl
section
variable {P : Program} {G : Ctx} {n : Sz} {ops : Array Oper} {Q : Post} {s : Fm} {H : List Ent} {o : Oper} {rest : List Oper}
theorem ri_t {k : IntKind} {p : Prop} [Decidable p] {a b c : Int} (h : p) (e : c = a) : resV [.int k c] = .int k (if p then a else b) := by rw [if_pos h, e]; rfl
theorem ri_f {k : IntKind} {p : Prop} [Decidable p] {a b c : Int} (h : ¬ p) (e : c = b) : resV [.int k c] = .int k (if p then a else b) := by rw [if_neg h, e]; rfl
end
theorem Holds.ext {G : Ctx} {H : List Ent} {w w' : World} (h : Holds G H w) (hb : Below w.heap.size w w') : Holds G H w' :=
  ⟨h.below.trans (hb.mono h.base), Nat.le_trans h.base hb.size, fun x hx => Ent.ok_of (h.ok x hx) fun k hk => hb.block k (Ent.ok_lt (h.ok x hx) hk).2, h.apart⟩
/-- Contracts told the other way. -/
theorem sv_of_calls {P : Program} {G : Ctx} {f : FuncId} {args : List Value} {H : List Ent} {v : Value} (hc : Callee P f) (h : ∀ w, Holds G H w → Calls P f args.toArray w fun e w' => e = .returned v ∧ Below w.heap.size w w') : SV P G f args H v :=
  ⟨hc, fun w hw => (h w hw).mono fun _ _ ⟨he, hb⟩ => ⟨v, H, he, hw.ext hb, rfl, rfl⟩⟩
theorem calls_of_sv {P : Program} {f : FuncId} {args : List Value} {W : World} {v : Value} (h : SV P ⟨W.heap.size, W⟩ f args [] v) : Calls P f args.toArray W fun e w' => e = .returned v ∧ Below W.heap.size W w' :=
  (h.2 W ⟨Below.refl _ _, Nat.le_refl _, fun _ hx => by (cases hx), List.Pairwise.nil⟩).mono fun _ _ ⟨_, _, he, hw, e1, _⟩ => ⟨by rw [he, e1], hw.below⟩
theorem RdC.top {W : World} {H : List Ent} {a : Option Addr} {xs : List Value} (h : At W a xs) : RdC ⟨W.heap.size, W⟩ H a xs := ⟨Rd.top h rfl⟩
end Go.Sx
namespace Go.Sx
open Go Go.RowKit Go.Fw
/-- Where the parts of a struct or an array lie. -/
class OffsT (P : Program) (t : TypeId) (offs : outParam (List (Nat × Nat))) (z : outParam (List Value)) : Prop where
  here : ∃ place : Nat → Option (Nat × Nat), (∀ (parts : List (Nat × Value)), P.built t parts = Instr.fill place z.toArray parts) ∧ ∀ (i : Nat) p, offs[i]? = some p → place i = some p
def arrOffs (len sz : Nat) : List (Nat × Nat) := (List.range len).map fun i => (i * sz, sz)
theorem arrOffs_at (len sz i : Nat) (p : Nat × Nat) (h : (arrOffs len sz)[i]? = some p) : some (i * sz, sz) = some p := by
  rw [← h, arrOffs, List.getElem?_map]
  have hi : i < len := by
    have := (List.getElem?_eq_some_iff.1 h).1
    simpa [arrOffs] using this
  simp [List.getElem?_range hi]
def putL? : List Value → Nat → List Value → Option (List Value)
  | l, _, [] => some l
  | l, k, v :: vs => match set? l k v with
    | none => none
    | some l' => putL? l' (k + 1) vs
def fillL? (offs : List (Nat × Nat)) : List Value → List (Nat × List Value) → Option (List Value)
  | l, [] => some l
  | l, (i, cs) :: r => match offs[i]? with
    | none => none
    | some (off, sz) => bif Nat.beq cs.length sz && Nat.blt 0 sz then (match putL? l off cs with
      | none => none
      | some l' => fillL? offs l' r) else none
def parts? (s : Fm) : List (Nat × Operand) → Option (List (Nat × List Value))
  | [] => some []
  | (i, x) :: r => match ev s x with
    | none => none
    | some v => match cells? v with
      | none => none
      | some cs => match parts? s r with
        | none => none
        | some l => some ((i, cs) :: l)
theorem set?_length {l : List Value} {k : Nat} {v : Value} {l' : List Value} (h : set? l k v = some l') : l'.length = l.length := by rw [← (set?_eq h).1, List.length_set]
theorem putL?_fold : ∀ (vs l l' : List Value) (off j : Nat), putL? l (off + j) vs = some l' → l'.length = l.length ∧ (vs.length = 0 ∨ off + j + vs.length ≤ l.length) ∧ ((vs.zipIdx j).foldl (fun cs x => cs.setIfInBounds (off + x.2) x.1) l.toArray) = l'.toArray
  | [], l, l', off, j, h => by simp only [putL?, Option.some.injEq] at h; subst h; exact ⟨rfl, .inl rfl, rfl⟩
  | v :: vs, l, l', off, j, h => by
    unfold putL? at h
    split at h
    · cases h
    · rename_i l1 h1
      obtain ⟨e1, e2, e3⟩ := putL?_fold vs l1 l' off (j + 1) (by rw [← Nat.add_assoc]; exact h)
      have hl := set?_length h1
      obtain ⟨f1, f2⟩ := set?_eq h1
      refine ⟨e1.trans hl, .inr ?_, ?_⟩
      · simp only [List.length_cons]
        rcases e2 with e2 | e2
        · omega
        · omega
      · rw [List.zipIdx_cons, List.foldl_cons, ← e3]
        congr 1
        rw [List.setIfInBounds_toArray, f1]
theorem fillL?_eq (offs : List (Nat × Nat)) (place : Nat → Option (Nat × Nat)) (hpl : ∀ (i : Nat) p, offs[i]? = some p → place i = some p) : ∀ (ps : List (Nat × List Value)) (vs : List (Nat × Value)) (l l' : List Value), vs.length = ps.length → (∀ (j : Nat) p q, ps[j]? = some p → vs[j]? = some q → q.1 = p.1 ∧ q.2.cells = p.2.toArray) → fillL? offs l ps = some l' → Instr.fill place l.toArray vs = some l'.toArray
  | [], vs, l, l', hl, _, h => by
    simp only [fillL?, Option.some.injEq] at h
    subst h
    have : vs = [] := List.eq_nil_of_length_eq_zero (by simpa using hl)
    subst this
    rfl
  | (i, cs) :: ps, [], l, l', hl, _, h => by simp at hl
  | (i, cs) :: ps, (i', v) :: vs, l, l', hl, hp, h => by
    obtain ⟨e1, e2⟩ := hp 0 _ _ rfl rfl
    simp only at e1 e2
    subst e1
    unfold fillL? at h
    split at h
    · cases h
    · rename_i off sz ho
      cases hb : (Nat.beq cs.length sz && Nat.blt 0 sz) with
      | false => rw [hb] at h; cases h
      | true =>
        rw [hb, cond_true] at h
        simp only [Bool.and_eq_true] at hb
        have hsz := Nat.eq_of_beq_eq_true hb.1
        have h0 : 0 < sz := by simpa [Nat.blt_eq] using hb.2
        split at h
        · cases h
        · rename_i l1 h1
          obtain ⟨f1, f2, f3⟩ := putL?_fold cs l l1 off 0 h1
          have ih := fillL?_eq offs place hpl ps vs l1 l' (by simpa using hl) (fun j p q h1 h2 => hp (j + 1) p q (by simpa using h1) (by simpa using h2)) h
          unfold Instr.fill
          simp only [hpl _ _ ho, e2]
          rw [if_neg (by simp; omega), ← Array.foldl_toList, Array.toList_zipIdx, ← ih, ← f3]
section
variable {P : Program} {G : Ctx} {n : Sz} {ops : Array Oper} {Q : Post} {s : Fm} {H : List Ent} {o : Oper} {rest : List Oper}
theorem parts?_eq : ∀ (ps : List (Nat × Operand)) (l : List (Nat × List Value)) (a : Act), Fr n s a → parts? s ps = some l →
    (ps.map fun x => (x.1, a.eval x.2)).length = l.length ∧ ∀ (j : Nat) p q, l[j]? = some p → (ps.map fun x => (x.1, a.eval x.2))[j]? = some q → q.1 = p.1 ∧ q.2.cells = p.2.toArray
  | [], l, a, _, h => by simp only [parts?, Option.some.injEq] at h; subst h; exact ⟨rfl, fun j p q h => by simp at h⟩
  | (i, x) :: ps, l, a, ha, h => by
    unfold parts? at h
    split at h
    · cases h
    · rename_i v hv
      split at h
      · cases h
      · rename_i cs hcs
        split at h
        · cases h
        · rename_i l1 hl1
          simp only [Option.some.injEq] at h
          subst h
          obtain ⟨e1, e2⟩ := parts?_eq ps l1 a ha hl1
          refine ⟨by simp only [List.map_cons, List.length_cons, e1], fun j p q hp hq => ?_⟩
          cases j with
          | zero =>
            simp only [List.map_cons, List.getElem?_cons_zero, Option.some.injEq] at hp hq
            subst hp; subst hq
            exact ⟨rfl, by rw [ha.ev hv]; exact (cells?_eq hcs).cells⟩
          | succ j =>
            simp only [List.map_cons, List.getElem?_cons_succ] at hp hq
            exact e2 j p q hp hq
theorem c_build {t : TypeId} {offs : List (Nat × Nat)} {z : List Value} {parts : Array (Nat × Operand)} {l : List (Nat × List Value)} {cs : List Value} (ho : o.op = .build t parts) [h : OffsT P t offs z] (hp : parts? s parts.toList = some l) (hf : fillL? offs z l = some cs) : Yields P G n s H o (.agg cs.toArray) := fun a w ha _ => by
  obtain ⟨place, h1, h2⟩ := h.here
  obtain ⟨e1, e2⟩ := parts?_eq parts.toList l a ha hp
  have hb := h1 (parts.toList.map fun x => (x.1, a.eval x.2))
  rw [fillL?_eq offs place h2 l _ z cs e1 e2 hf] at hb
  unfold execOp; rw [ho]
  exact run_value (run_build w t _ cs.toArray (by rw [Array.toList_map]; exact hb))
theorem c_indexArr {t len e : Nat} {x y : Operand} {k : IntKind} {i : Int} {cs : List Value} {v : Value} (ho : o.op = .index t x y) [h : ArrT P t len e 1] [he : Sc P e] (hx : ev s x = some (.agg cs.toArray)) (hy : ev s y = some (.int k i)) (h0 : 0 ≤ i) (h1 : i < (len : Int)) (hv : cs[i.toNat]? = some v) : Yields P G n s H o v := fun a w ha _ => by
  obtain ⟨hu, hi⟩ := h.here
  obtain ⟨d, hd, hrow, -⟩ := he.here
  unfold execOp; rw [ho]; simp only [ha.ev hx, ha.ev hy]
  refine run_value ?_
  cases hq : P.info? e with
  | none => simp [hq] at hi
  | some inf =>
    have hs : inf.size = 1 := by simpa [hq] using hi
    simp only [Instr.index, asIntOf, Sem.run_bind, Sem.run_pure, Result.andThen_ok, run_underlying hu]
    rw [if_pos ⟨h0, h1⟩]
    simp only [sizeOf, typeInfo, program, Sem.run_bind, Sem.run, Result.andThen_ok, hq, hs, Sem.run_pure, part, run_isAgg hd, hrow]
    simp [hv, Sem.run]
theorem c_indexStr {t : Nat} {x y : Operand} {k : IntKind} {i : Int} {b : ByteArray} {v : UInt8} (ho : o.op = .index t x y) [h : StrT P t] (hx : ev s x = some (.string b)) (hy : ev s y = some (.int k i)) (h0 : 0 ≤ i) (hv : b[i.toNat]? = some v) : Yields P G n s H o (.int .u8 v.toNat) := fun a w ha _ => by
  unfold execOp; rw [ho]; simp only [ha.ev hx, ha.ev hy]
  refine run_value ?_
  simp only [Instr.index, asIntOf, Sem.run_bind, Sem.run_pure, Result.andThen_ok, run_underlying h.here, if_pos h0, hv]
/-- Powers of two, spelled out. -/
def pw? : Nat → Option Int
  | 0 => some 1 | 1 => some 2 | 2 => some 4 | 3 => some 8 | 4 => some 16 | 5 => some 32 | 6 => some 64 | 7 => some 128 | 8 => some 256 | 10 => some 1024 | 16 => some 65536 | 24 => some 16777216 | 32 => some 4294967296 | _ => none
theorem pw?_eq {m : Nat} {D : Int} (h : pw? m = some D) : D = 2 ^ m ∧ m ≤ 32 := by
  unfold pw? at h
  split at h <;> (first | (cases h; done) | (simp only [Option.some.injEq] at h; subst h; exact ⟨rfl, by decide⟩))
def msk? : Nat → Option Int
  | 1 => some 2 | 3 => some 4 | 7 => some 8 | 15 => some 16 | 31 => some 32 | 63 => some 64 | 127 => some 128 | 255 => some 256 | 65535 => some 65536 | _ => none
theorem msk?_eq {m : Nat} {D : Int} (h : msk? m = some D) : (∀ x : Nat, ((x &&& m : Nat) : Int) = (x : Int) % D) ∧ m < 65536 := by
  unfold msk? at h
  split at h <;> (first | (cases h; done) | (simp only [Option.some.injEq] at h; subst h; refine ⟨fun x => ?_, by decide⟩; ((first | rw [nat_mask1] | rw [nat_mask2] | rw [nat_mask3] | rw [nat_mask4] | rw [nat_mask5] | rw [nat_mask6] | rw [nat_mask7] | rw [nat_mask8] | rw [nat_mask16])); exact Int.natCast_emod _ _))
/-- A loop of so many rounds at most. -/
def SRd (P : Program) (G : Ctx) (n : Sz) (c : Code) (Q : Post) : Nat → Fm → List Ent → Prop
  | 0, _, _ => False
  | m + 1, s, H => SW P G n c (thn (SRd P G n c Q m) Q) s H
theorem sw_loopN {c : Code} (m : Nat) (h : SRd P G n c Q m s H) : SW P G n (.loop c) Q s H := fun a w ha hw => by
  refine wp_loop_rounds m ?_
  induction m generalizing s H a w with
  | zero => exact h.elim
  | succ m ih =>
    rw [rounds_succ]
    refine wp_mono (h a w ha hw) fun e a' w' ⟨s', H', ha', hw', hq⟩ => ?_
    cases e with
    | normal => exact ih hq a' w' ha' hw'
    | _ => exact ⟨s', H', ha', hw', hq⟩
theorem srd_succ {c : Code} {m : Nat} (h : SW P G n c (thn (SRd P G n c Q m) Q) s H) : SRd P G n c Q (m + 1) s H := h
theorem at_srd {c : Code} {m : Nat} (h : SW P G n c (thn (SRd P G n c Q m) Q) s H) : AtQ (thn (SRd P G n c Q (m + 1)) Q) .normal s H := h
end
theorem sv_enter0 {P : Program} {G : Ctx} {f : FuncId} {fn : Func} {c : Code} {n : Nat} {H : List Ent} {rs : List ResultVar} {v : Value} (hf : P.funcs[f]? = some fn) (hb : fn.body = some c) (hn : (fn.name == "runtime.NumGoroutine") = false) (hnt : some fn.ntmps = some n) (hrs : fn.results = rs.toArray) (hl : Nat.ble 0 n = true) (h : SW P G n c (fpost G P rs fun u H' => u = v ∧ H' = H) [] H) : SV P G f [] H v := sc_enter hf hb hn hnt hrs hl h
theorem sv_enter1 {P : Program} {G : Ctx} {f : FuncId} {fn : Func} {c : Code} {n : Nat} {v0 : Value} {H : List Ent} {rs : List ResultVar} {v : Value} (hf : P.funcs[f]? = some fn) (hb : fn.body = some c) (hn : (fn.name == "runtime.NumGoroutine") = false) (hnt : some fn.ntmps = some n) (hrs : fn.results = rs.toArray) (hl : Nat.ble 1 n = true) (h : SW P G n c (fpost G P rs fun u H' => u = v ∧ H' = H) [(0, v0)] H) : SV P G f [v0] H v := sc_enter hf hb hn hnt hrs hl h
theorem sv_enter2 {P : Program} {G : Ctx} {f : FuncId} {fn : Func} {c : Code} {n : Nat} {v0 v1 : Value} {H : List Ent} {rs : List ResultVar} {v : Value} (hf : P.funcs[f]? = some fn) (hb : fn.body = some c) (hn : (fn.name == "runtime.NumGoroutine") = false) (hnt : some fn.ntmps = some n) (hrs : fn.results = rs.toArray) (hl : Nat.ble 2 n = true) (h : SW P G n c (fpost G P rs fun u H' => u = v ∧ H' = H) [(0, v0), (1, v1)] H) : SV P G f [v0, v1] H v := sc_enter hf hb hn hnt hrs hl h
theorem sv_enter3 {P : Program} {G : Ctx} {f : FuncId} {fn : Func} {c : Code} {n : Nat} {v0 v1 v2 : Value} {H : List Ent} {rs : List ResultVar} {v : Value} (hf : P.funcs[f]? = some fn) (hb : fn.body = some c) (hn : (fn.name == "runtime.NumGoroutine") = false) (hnt : some fn.ntmps = some n) (hrs : fn.results = rs.toArray) (hl : Nat.ble 3 n = true) (h : SW P G n c (fpost G P rs fun u H' => u = v ∧ H' = H) [(0, v0), (1, v1), (2, v2)] H) : SV P G f [v0, v1, v2] H v := sc_enter hf hb hn hnt hrs hl h
section
variable {P : Program} {G : Ctx} {n : Sz} {ops : Array Oper} {Q : Post} {s : Fm} {H : List Ent} {o : Oper} {rest : List Oper}
theorem c_indexArrA {t len e sz : Nat} {x y : Operand} {k : IntKind} {i : Int} {cs cs' : List Value} (ho : o.op = .index t x y) [h : ArrT P t len e sz] [he : Ag P e sz] (hx : ev s x = some (.agg cs.toArray)) (hy : ev s y = some (.int k i)) (h0 : 0 ≤ i) (h1 : i < (len : Int)) (hv : take? (cs.drop (i.toNat * sz)) sz = some cs') : Yields P G n s H o (.agg cs'.toArray) := fun a w ha _ => by
  obtain ⟨hu, hi⟩ := h.here
  obtain ⟨d, hd, hrow, -⟩ := he.here
  unfold execOp; rw [ho]; simp only [ha.ev hx, ha.ev hy]
  refine run_value ?_
  cases hq : P.info? e with
  | none => simp [hq] at hi
  | some inf =>
    have hs : inf.size = sz := by simpa [hq] using hi
    simp only [Instr.index, asIntOf, Sem.run_bind, Sem.run_pure, Result.andThen_ok, run_underlying hu]
    rw [if_pos ⟨h0, h1⟩]
    have hz : (sizeOf e).run P w = .ok sz w := by simp [sizeOf, typeInfo, program, Sem.run, hq, hs]
    simp only [Sem.run_bind, hz, Result.andThen_ok, part, run_isAgg hd, hrow, if_true, Sem.run_pure]
    have e1 := (take?_eq hv).1
    congr 2
    rw [← e1]
    apply Array.ext'
    simp
theorem sw_mono {c : Code} {Q Q' : Post} (hq : ∀ e s H, Q e s H → Q' e s H) (h : SW P G n c Q s H) : SW P G n c Q' s H := fun a w ha hw => wp_mono (h a w ha hw) fun _ _ _ ⟨s', H', h1, h2, h3⟩ => ⟨s', H', h1, h2, hq _ _ _ h3⟩
theorem thn_mono {N N' : Fm → List Ent → Prop} {Q Q' : Post} (hn : ∀ s H, N s H → N' s H) (hq : ∀ e s H, Q e s H → Q' e s H) : ∀ e s H, thn N Q e s H → thn N' Q' e s H := fun e s H h => by
  cases e with
  | normal => exact hn _ _ h
  | _ => exact hq _ _ _ h
/-- What is known where ways meet. -/
def Meet {α : Type} (G : Ctx) (S : α → Fm) (E : α → List Ent) (I : α → Prop) : Fm → List Ent → Prop := fun s' H' => ∃ y, I y ∧ Le (S y) s' ∧ ∀ w, Holds G H' w → Holds G (E y) w
theorem sw_cut1 {x y : Code} {α : Type} (S : α → Fm) (E : α → List Ent) (I : α → Prop) (hx : SW P G n x (thn (Meet G S E I) Q) s H) (hy : ∀ g, I g → SW P G n y Q (S g) (E g)) : SW P G n x (thn (SW P G n y Q) Q) s H :=
  sw_mono (thn_mono (fun _ _ ⟨g, h1, h2, h3⟩ => sw_le h2 h3 (hy g h1)) (fun _ _ _ h => h)) hx
theorem g_reg {id : Nat} {l : Array Oper} {b : Bool} (h : SW P G n (.region id l b) Q s H) : SW P G n (.region id l b) Q s H := h
end
end Go.Sx
namespace Go.Sx
open Go Go.RowKit Go.Fw
inductive Subs : List Ent → List Ent → Prop where
  | sub {H' H : List Ent} (h : H'.Sublist H) : Subs H' H
  | cons {x : Ent} {H' H1 H : List Ent} (hp : Pick x H H1) (h : Subs H' H1) : Subs (x :: H') H
theorem Subs.perm {H' H : List Ent} (h : Subs H' H) : ∃ H2, H'.Sublist H2 ∧ H2.Perm H := by
  induction h with
  | sub h => exact ⟨_, h, List.Perm.refl _⟩
  | cons hp _ ih =>
    obtain ⟨H2, h1, h2⟩ := ih
    exact ⟨_ :: H2, h1.cons_cons _, (List.Perm.cons _ h2).trans hp.perm.symm⟩
theorem Holds.subs {G : Ctx} {H' H : List Ent} {w : World} (h : Holds G H w) (hs : Subs H' H) : Holds G H' w := by
  obtain ⟨H2, h1, h2⟩ := hs.perm
  exact (h.perm h2.symm).sub h1
theorem octs_app (L M : List Int) : octs (L ++ M) = octs L ++ octs M := by simp [octs]
section
variable {P : Program} {G : Ctx} {n : Sz} {Q : Post} {s : Fm} {H : List Ent}
/-- A loop told by a ghost. -/
theorem sw_loopg {c : Code} {α : Type} (S : α → Fm) (E : α → List Ent) (I : α → Prop) (μ : α → Nat) (x0 : α) (hI : I x0) (hs : Le (S x0) s) (hH : ∀ w, Holds G H w → Holds G (E x0) w)
    (round : ∀ x, I x → SW P G n c (thn (Meet G S E fun y => I y ∧ μ y < μ x) Q) (S x) (E x)) : SW P G n (.loop c) Q s H :=
  sw_loop S E I μ x0 hI hs hH fun x hx => sw_mono (thn_mono (fun _ _ ⟨y, ⟨h1, h2⟩, h3, h4⟩ => ⟨y, h1, h2, h3, h4⟩) fun _ _ _ h => h) (round x hx)
theorem at_meet {α : Type} {S : α → Fm} {E : α → List Ent} {I : α → Prop} (y : α) (hI : I y) (hs : Le (S y) s) (hH : ∀ w, Holds G H w → Holds G (E y) w) : AtQ (thn (Meet G S E I) Q) .normal s H := ⟨y, hI, hs, hH⟩
theorem e_scf {R : Value → List Ent → Prop} {rs : List ResultVar} {vs : List Value} {e : Exit} (H' : List Ent) (he : e = .normal ∨ e = .ret) (hr : res? s rs = some vs) (hH : ∀ w, Holds G H w → Holds G H' w) (h : R (resV vs) H') : AtQ (fpost G P rs R) e s H := at_fpost e he (res?_of hr) hH h
end
end Go.Sx
namespace Go.Sx
open Go Go.RowKit Go.Fw
section
variable {P : Program} {G : Ctx} {n : Sz} {ops : Array Oper} {Q : Post} {s : Fm} {H : List Ent} {rest : List Oper} {d : Nat} {ty : TypeId} {pos : String} {af : Array Edge}
theorem sl_gd {op : Op} {i j : Nat} {b c : Bool} {o' : Oper} (ho : ops[i]? = some o') (hd : o'.dst = some j) (hl : look s j = some (.bool c)) (h2 : Nat.blt d n.n = true)
    (hs : (c = b → SL P G n ops Q (⟨some d, op, ty, pos, af, none⟩ :: rest) ((j, .bool b) :: s) H) ∧ (c = !b → SL P G n ops Q rest ((d, undef) :: (j, .bool (!b)) :: s) H)) : SL P G n ops Q (⟨some d, op, ty, pos, af, some (i, b)⟩ :: rest) s H := by
  have key : ∀ v, look s j = some v → ∀ a, Fr n s a → Fr n ((j, v) :: s) a := fun v hv a ha => ⟨ha.defers, ha.size, fun i u hi => by
    simp only [look] at hi
    cases hb : Nat.beq i j with
    | true => rw [hb, cond_true, Option.some.injEq] at hi; subst hi; rw [Nat.eq_of_beq_eq_true hb]; exact ha.has j _ hv
    | false => rw [hb, cond_false] at hi; exact ha.has i u hi⟩
  by_cases hc : c = b
  · subst hc
    exact fun a w ha hw => sl_unguard (o := ⟨some d, op, ty, pos, af, some (i, c)⟩) rfl ho hd (by simp only [look, Nat.beq_refl, cond_true]) (hs.1 rfl) a w (key _ hl a ha) hw
  · have hc' : c = !b := by cases c <;> cases b <;> simp_all
    have hl' : look ((j, Value.bool c) :: s) j = some (.bool c) := by simp only [look, Nat.beq_refl, cond_true]
    have h := hs.2 hc'
    rw [← hc'] at h
    refine fun a w ha hw => sl_skip (o := ⟨some d, op, ty, pos, af, some (i, b)⟩) (fun a ha => Skips.wanted ⟨i, c, o', j, ?_, ho, hd, hl'⟩ ha) rfl h2 h a w (key _ hl a ha) hw
    rw [hc']; simp
theorem sq_gd {Q : Fm → Prop} {op : Op} {i j : Nat} {b c : Bool} {o' : Oper} (ho : ops[i]? = some o') (hd : o'.dst = some j) (hl : look s j = some (.bool c)) (h2 : Nat.blt d n.n = true)
    (hs : (c = b → SQ P G n ops Q H (⟨some d, op, ty, pos, af, none⟩ :: rest) ((j, .bool b) :: s)) ∧ (c = !b → SQ P G n ops Q H rest ((d, undef) :: (j, .bool (!b)) :: s))) : SQ P G n ops Q H (⟨some d, op, ty, pos, af, some (i, b)⟩ :: rest) s := by
  have key : ∀ v, look s j = some v → ∀ a, Fr n s a → Fr n ((j, v) :: s) a := fun v hv a ha => ⟨ha.defers, ha.size, fun i u hi => by
    simp only [look] at hi
    cases hb : Nat.beq i j with
    | true => rw [hb, cond_true, Option.some.injEq] at hi; subst hi; rw [Nat.eq_of_beq_eq_true hb]; exact ha.has j _ hv
    | false => rw [hb, cond_false] at hi; exact ha.has i u hi⟩
  by_cases hc : c = b
  · subst hc
    exact fun a ha => sq_unguard (o := ⟨some d, op, ty, pos, af, some (i, c)⟩) rfl ho hd (by simp only [look, Nat.beq_refl, cond_true]) (hs.1 rfl) a (key _ hl a ha)
  · have hc' : c = !b := by cases c <;> cases b <;> simp_all
    have hl' : look ((j, Value.bool c) :: s) j = some (.bool c) := by simp only [look, Nat.beq_refl, cond_true]
    have h := hs.2 hc'
    rw [← hc'] at h
    refine fun a ha => sq_skip (o := ⟨some d, op, ty, pos, af, some (i, b)⟩) (fun a ha => Skips.wanted ⟨i, c, o', j, ?_, ho, hd, hl'⟩ ha) rfl h2 h a (key _ hl a ha)
    rw [hc']; simp
/-- By the value fetched. -/
theorem gd_t {A B : Prop} {b : Bool} (h : A) : (b = b → A) ∧ (b = !b → B) := ⟨fun _ => h, fun e => by cases b <;> cases e⟩
theorem gd_tf {A B : Prop} (h : B) : (true = false → A) ∧ (true = !false → B) := ⟨fun e => (by cases e), fun _ => h⟩
theorem gd_ft {A B : Prop} (h : B) : (false = true → A) ∧ (false = !true → B) := ⟨fun e => (by cases e), fun _ => h⟩
theorem gd_dec_t {A B : Prop} {p : Prop} [Decidable p] (h1 : p → A) (h2 : ¬ p → B) : (decide p = true → A) ∧ (decide p = !true → B) := ⟨fun e => h1 (of_decide_eq_true e), fun e => h2 (of_decide_eq_false e)⟩
theorem gd_dec_f {A B : Prop} {p : Prop} [Decidable p] (h1 : ¬ p → A) (h2 : p → B) : (decide p = false → A) ∧ (decide p = !false → B) := ⟨fun e => h1 (of_decide_eq_false e), fun e => h2 (of_decide_eq_true e)⟩
theorem gd_bne_t {A B : Prop} {x y : Int} (h1 : ¬ x = y → A) (h2 : x = y → B) : ((x != y) = true → A) ∧ ((x != y) = !true → B) := ⟨fun e => h1 (by simpa using e), fun e => h2 (by simpa using e)⟩
theorem gd_bne_f {A B : Prop} {x y : Int} (h1 : x = y → A) (h2 : ¬ x = y → B) : ((x != y) = false → A) ∧ ((x != y) = !false → B) := ⟨fun e => h1 (by simpa using e), fun e => h2 (by simpa using e)⟩
theorem gd_not_t {A B : Prop} {c : Bool} (h1 : c = false → A) (h2 : c = true → B) : ((!c) = true → A) ∧ ((!c) = !true → B) := ⟨fun e => h1 (by simpa using e), fun e => h2 (by simpa using e)⟩
theorem gd_not_f {A B : Prop} {c : Bool} (h1 : c = true → A) (h2 : c = false → B) : ((!c) = false → A) ∧ ((!c) = !false → B) := ⟨fun e => h1 (by simpa using e), fun e => h2 (by simpa using e)⟩
theorem gd_raw_t {A B : Prop} {c : Bool} (h1 : c = true → A) (h2 : c = false → B) : (c = true → A) ∧ (c = !true → B) := ⟨h1, h2⟩
/-- Of a condition. -/
theorem sw_cd {c : Operand} {x y : Code} {t : Bool} (hc : ev s c = some (.bool t)) (hs : (t = true → SW P G n x Q s H) ∧ (t = !true → SW P G n y Q s H)) : SW P G n (.cond c x y) Q s H := sw_cond hc hs.1 hs.2
/-- Two values met by an operator. -/
def BB (P : Program) (op : BinOp) (t : TypeId) (x y : Operand) (vx vy : Value) (K : Value → Prop) : Prop := ∃ v, (∀ w, (do eqGuard op t x y vx vy; binOp op t vx vy : Sem Value).run P w = .ok v w) ∧ K v
/-- What a load finds. -/
def LD (P : Program) (G : Ctx) (H : List Ent) (t : TypeId) (p : Value) (K : Value → Prop) : Prop := ∃ v, (∀ w, Holds G H w → (Instr.loadAt t p).run P w = .ok v w) ∧ K v
def PK (s : Fm) (b : Bool) (x y : Operand) (K : Value → Prop) : Prop := ∃ v, (∀ (n : Sz) a, Fr n s a → (if b then a.eval x else a.eval y) = v) ∧ K v
variable {K : Value → Prop} {x y : Operand} {t t' : TypeId}
theorem yb {op : BinOp} {vx vy v : Value} {o : Oper} (ho : o.op = .binOp op t x y t') (hx : ev s x = some vx) (hy : ev s y = some vy) (h : ∀ w, (do eqGuard op t x y vx vy; binOp op t vx vy : Sem Value).run P w = .ok v w) : Yields P G n s H o v := fun a w ha _ => by
  unfold execOp; rw [ho]; simp only [ha.ev hx, ha.ev hy]; exact run_value (h w)
theorem bb_of {op : BinOp} {vx vy v : Value} (h : still P (do eqGuard op t x y vx vy; binOp op t vx vy) = some v) (hk : K v) : BB P op t x y vx vy K := ⟨v, fun w => still_run _ _ h w, hk⟩
theorem st_add {k : IntKind} {p q : Int} (h : Fits k (p + q)) : still P (do eqGuard .add t x y (.int k p) (.int k q); binOp .add t (.int k p) (.int k q)) = some (.int k (p + q)) := by simp only [eqGuard, binOp, Op.intArith, h.wrap]; simp; rfl
theorem bb_add {k : IntKind} {p q : Int} (h : Fits k (p + q)) (hk : K (.int k (p + q))) : BB P .add t x y (.int k p) (.int k q) K := bb_of (st_add h) hk
theorem st_sub {k : IntKind} {p q : Int} (h : Fits k (p - q)) : still P (do eqGuard .sub t x y (.int k p) (.int k q); binOp .sub t (.int k p) (.int k q)) = some (.int k (p - q)) := by simp only [eqGuard, binOp, Op.intArith, h.wrap]; simp; rfl
theorem bb_sub {k : IntKind} {p q : Int} (h : Fits k (p - q)) (hk : K (.int k (p - q))) : BB P .sub t x y (.int k p) (.int k q) K := bb_of (st_sub h) hk
theorem st_mul {k : IntKind} {p q : Int} (h : Fits k (p * q)) : still P (do eqGuard .mul t x y (.int k p) (.int k q); binOp .mul t (.int k p) (.int k q)) = some (.int k (p * q)) := by simp only [eqGuard, binOp, Op.intArith, h.wrap]; simp; rfl
theorem bb_mul {k : IntKind} {p q : Int} (h : Fits k (p * q)) (hk : K (.int k (p * q))) : BB P .mul t x y (.int k p) (.int k q) K := bb_of (st_mul h) hk
theorem st_quo {k : IntKind} {p q : Int} (h : Fits k (p / q)) (h0 : 0 ≤ p) (h1 : 0 < q) : still P (do eqGuard .quo t x y (.int k p) (.int k q); binOp .quo t (.int k p) (.int k q)) = some (.int k (p / q)) := by
    have e : p.tdiv q = p / q := Int.tdiv_eq_ediv_of_nonneg h0
    have e2 : ¬ q = 0 := by omega
    simp only [eqGuard, binOp, Op.intDiv, e, h.wrap, e2, if_false]; simp; rfl
theorem bb_quo {k : IntKind} {p q : Int} (h : Fits k (p / q)) (h0 : 0 ≤ p) (h1 : 0 < q) (hk : K (.int k (p / q))) : BB P .quo t x y (.int k p) (.int k q) K := bb_of (st_quo h h0 h1) hk
theorem st_rem {k : IntKind} {p q : Int} (h0 : 0 ≤ p) (h1 : 0 < q) : still P (do eqGuard .rem t x y (.int k p) (.int k q); binOp .rem t (.int k p) (.int k q)) = some (.int k (p % q)) := by
    have e : p.tmod q = p % q := Int.tmod_eq_emod_of_nonneg h0
    have e2 : ¬ q = 0 := by omega
    simp only [eqGuard, binOp, Op.intDiv, e, e2, if_false]; simp; rfl
theorem bb_rem {k : IntKind} {p q : Int} (h0 : 0 ≤ p) (h1 : 0 < q) (hk : K (.int k (p % q))) : BB P .rem t x y (.int k p) (.int k q) K := bb_of (st_rem h0 h1) hk
theorem st_and {p q : Int} (h1 : 0 ≤ p) (h2 : p < 9223372036854775808) (h3 : 0 ≤ q) (h4 : q < 9223372036854775808) : still P (do eqGuard .and t x y (.int .i64 p) (.int .i64 q); binOp .and t (.int .i64 p) (.int .i64 q)) = some (.int .i64 (iand p q)) := by rw [iand_eq, ← i64_and p q h1 h2 h3 h4]; rfl
theorem bb_and {p q : Int} (h1 : 0 ≤ p) (h2 : p < 9223372036854775808) (h3 : 0 ≤ q) (h4 : q < 9223372036854775808) (hk : K (.int .i64 (iand p q))) : BB P .and t x y (.int .i64 p) (.int .i64 q) K := bb_of (st_and h1 h2 h3 h4) hk
theorem st_bits {op : BinOp} {k : IntKind} {p q : Int} (hop : (match op with | .and | .or | .xor | .andNot => true | _ => false) = true) : still P (do eqGuard op t x y (.int k p) (.int k q); binOp op t (.int k p) (.int k q)) = some (.int k (ibits op k p q)) := by rw [ibits_eq]; cases op <;> (first | (cases hop; done) | (simp only [eqGuard, binOp]; simp; rfl))
theorem bb_bits {op : BinOp} {k : IntKind} {p q : Int} (hop : (match op with | .and | .or | .xor | .andNot => true | _ => false) = true) (hk : K (.int k (ibits op k p q))) : BB P op t x y (.int k p) (.int k q) K := bb_of (st_bits hop) hk
theorem st_shr {k k' : IntKind} {p : Int} {m : Nat} (hm : Nat.ble m k.bits = true) : still P (do eqGuard .shr t x y (.int k p) (.int k' m); binOp .shr t (.int k p) (.int k' m)) = some (.int k (p / 2 ^ m)) := by
  have hm' := Nat.le_of_ble_eq_true hm
  have e : min ((m : Int).toNat) k.bits = m := by rw [Int.toNat_natCast]; exact Nat.min_eq_left hm'
  have e2 : p.fdiv (2 ^ m) = p / 2 ^ m := Int.fdiv_eq_ediv_of_nonneg _ (by exact_mod_cast Nat.zero_le (2 ^ m))
  have e3 : ¬ ((m : Int) < 0) := by omega
  simp only [eqGuard, binOp, Op.shift, e3, if_false, e, e2]
  simp
  rfl
theorem bb_shr {k k' : IntKind} {p q D : Int} {m : Nat} (hq : q = m) (hp : pw? m = some D) (hm : Nat.ble m k.bits = true) (hk : K (.int k (p / D))) : BB P .shr t x y (.int k p) (.int k' q) K := by
  subst hq
  obtain ⟨e, -⟩ := pw?_eq hp
  subst e
  exact bb_of (st_shr hm) hk
theorem bb_mask {p q D : Int} {m : Nat} (hq : q = m) (hm : msk? m = some D) (h1 : 0 ≤ p) (h2 : p < 9223372036854775808) (hk : K (.int .i64 (p % D))) : BB P .and t x y (.int .i64 p) (.int .i64 q) K := by
  subst hq
  obtain ⟨e, hlt⟩ := msk?_eq hm
  have h := st_and (P := P) (t := t) (x := x) (y := y) (p := p) (q := m) h1 h2 (by omega) (by omega)
  rw [iand_eq, Int.toNat_natCast, e, Int.toNat_of_nonneg h1] at h
  exact bb_of h hk
theorem ld_cell {t' b off : Nat} {cs : List Value} {v : Value} [h : Sc P t] [hm : HasBlk H b t' cs] (hv : cs[off]? = some v) (hk : K v) : LD P G H t (.pointer (some ⟨b, off, none⟩)) K := by
  obtain ⟨d, h1, h2, -⟩ := h.here
  exact ⟨v, fun w hw => run_load_cell h1 h2 ((row_cell (hw.ok _ hm.here).2).trans hv), hk⟩
theorem ld_whole {t' b sz : Nat} {cs : List Value} [h : Ag P t sz] [hm : HasBlk H b t' cs] (hl' : Nat.beq cs.length sz = true) (hk : K (.agg cs.toArray)) : LD P G H t (.pointer (some ⟨b, 0, none⟩)) K := by
  obtain ⟨d, h1, h2, h3⟩ := h.here
  have hl := Nat.eq_of_beq_eq_true hl'
  exact ⟨_, fun w hw => run_load_cells h1 h2 (by rw [h3, hl]) fun j v hj => by rw [Nat.zero_add]; exact (row_cell (hw.ok _ hm.here).2).trans hj, hk⟩
theorem ld_part {t' b off sz : Nat} {cs cs' : List Value} [h : Ag P t sz] [hm : HasBlk H b t' cs] (hn : take? (cs.drop off) sz = some cs') (hz : Nat.blt 0 sz = true) (hk : K (.agg cs'.toArray)) : LD P G H t (.pointer (some ⟨b, off, none⟩)) K := by
  obtain ⟨d, h1, h2, h3⟩ := h.here
  obtain ⟨e1, e2⟩ := take?_eq hn
  rw [List.length_drop] at e2
  refine ⟨_, fun w hw => run_load_cells h1 h2 (cs := cs') (by rw [h3, ← e1, List.length_take, List.length_drop, Nat.min_eq_left (by omega)]) fun j v hj => ?_, hk⟩
  refine (row_cell (hw.ok _ hm.here).2).trans ?_
  rw [← e1] at hj
  have hlt : j < sz := by
    have := (List.getElem?_eq_some_iff.1 hj).1
    rw [List.length_take] at this; omega
  rw [List.getElem?_take, if_pos hlt, List.getElem?_drop] at hj
  exact hj
theorem ld_elem {a : Option Addr} {k : Nat} {xs : List Value} {v : Value} [h : Sc P t] [hr : RdC G H a xs] (hv : xs[k]? = some v) (hk : K v) : LD P G H t (elemPtr a k) K := by
  obtain ⟨d, h1, h2, -⟩ := h.here
  refine ⟨v, fun w hw => ?_, hk⟩
  have hkk := (List.getElem?_eq_some_iff.1 hv).1
  obtain ⟨b, off, rfl, hc⟩ := At.someAt (hr.here w hw) (by omega)
  simp only [elemPtr, Option.map_some, Addr.add_mid]
  exact run_load_cell h1 h2 ((hc k hkk).trans hv)
theorem pk_t {v : Value} (hx : ev s x = some v) (hk : K v) : PK s true x y K := ⟨v, fun _ _ ha => ha.ev hx, hk⟩
theorem pk_f {v : Value} (hx : ev s y = some v) (hk : K v) : PK s false x y K := ⟨v, fun _ _ ha => ha.ev hx, hk⟩
theorem s_bin {op : BinOp} {vx vy : Value} (hx : ev s x = some vx) (hy : ev s y = some vy) (h2 : Nat.blt d n.n = true) (h : BB P op t x y vx vy fun v => SL P G n ops Q rest ((d, v) :: s) H) : SL P G n ops Q (⟨some d, Op.binOp op t x y t', ty, pos, af, none⟩ :: rest) s H := by
  obtain ⟨v, h3, h4⟩ := h
  exact sl_val rfl (yb rfl hx hy h3) rfl h2 h4
theorem s_load {vx : Value} (hx : ev s x = some vx) (h2 : Nat.blt d n.n = true) (h : LD P G H t vx fun v => SL P G n ops Q rest ((d, v) :: s) H) : SL P G n ops Q (⟨some d, Op.load t x, ty, pos, af, none⟩ :: rest) s H := by
  obtain ⟨v, h3, h4⟩ := h
  exact sl_val rfl (fun a w ha hw => by unfold execOp; simp only [ha.ev hx]; exact run_value (h3 w hw)) rfl h2 h4
theorem s_pick {c : Operand} {b : Bool} (hc : ev s c = some (.bool b)) (h2 : Nat.blt d n.n = true) (h : PK s b x y fun v => SL P G n ops Q rest ((d, v) :: s) H) : SL P G n ops Q (⟨some d, Op.pick c x y, ty, pos, af, none⟩ :: rest) s H := by
  obtain ⟨v, h3, h4⟩ := h
  exact sl_val rfl (fun a w ha _ => by unfold execOp; simp only [ha.ev hc, asBool, Sem.run_bind, Sem.run_pure, Result.andThen_ok, h3 n a ha]) rfl h2 h4
theorem s_move {v : Value} (hx : ev s x = some v) (h2 : Nat.blt d n.n = true) (h : SL P G n ops Q rest ((d, v) :: s) H) : SL P G n ops Q (⟨some d, Op.move x, ty, pos, af, none⟩ :: rest) s H := sl_val rfl (y_move rfl hx) rfl h2 h
theorem s_asgn {v : Value} (hx : ev s x = some v) (h2 : Nat.blt d n.n = true) (h : SL P G n ops Q rest ((d, v) :: s) H) : SL P G n ops Q (⟨some d, Op.assign x, ty, pos, af, none⟩ :: rest) s H := sl_val rfl (y_assign rfl hx) rfl h2 h
theorem s_un {u : UnOp} {v : Value} (hy : Yields P G n s H ⟨some d, Op.unOp u t x, ty, pos, af, none⟩ v) (h2 : Nat.blt d n.n = true) (h : SL P G n ops Q rest ((d, v) :: s) H) : SL P G n ops Q (⟨some d, Op.unOp u t x, ty, pos, af, none⟩ :: rest) s H := sl_val rfl hy rfl h2 h
theorem s_field {i : Nat} {v : Value} (hy : Yields P G n s H ⟨some d, Op.fieldAddr t x i, ty, pos, af, none⟩ v) (h2 : Nat.blt d n.n = true) (h : SL P G n ops Q rest ((d, v) :: s) H) : SL P G n ops Q (⟨some d, Op.fieldAddr t x i, ty, pos, af, none⟩ :: rest) s H := sl_val rfl hy rfl h2 h
theorem s_build {parts : Array (Nat × Operand)} {v : Value} (hy : Yields P G n s H ⟨some d, Op.build t parts, ty, pos, af, none⟩ v) (h2 : Nat.blt d n.n = true) (h : SL P G n ops Q rest ((d, v) :: s) H) : SL P G n ops Q (⟨some d, Op.build t parts, ty, pos, af, none⟩ :: rest) s H := sl_val rfl hy rfl h2 h
theorem s_index {v : Value} (hy : Yields P G n s H ⟨some d, Op.index t x y, ty, pos, af, none⟩ v) (h2 : Nat.blt d n.n = true) (h : SL P G n ops Q rest ((d, v) :: s) H) : SL P G n ops Q (⟨some d, Op.index t x y, ty, pos, af, none⟩ :: rest) s H := sl_val rfl hy rfl h2 h
theorem s_indexA {v : Value} (hy : Yields P G n s H ⟨some d, Op.indexAddr t x y, ty, pos, af, none⟩ v) (h2 : Nat.blt d n.n = true) (h : SL P G n ops Q rest ((d, v) :: s) H) : SL P G n ops Q (⟨some d, Op.indexAddr t x y, ty, pos, af, none⟩ :: rest) s H := sl_val rfl hy rfl h2 h
theorem s_conv {v : Value} (hy : Yields P G n s H ⟨some d, Op.convert t t' x, ty, pos, af, none⟩ v) (h2 : Nat.blt d n.n = true) (h : SL P G n ops Q rest ((d, v) :: s) H) : SL P G n ops Q (⟨some d, Op.convert t t' x, ty, pos, af, none⟩ :: rest) s H := sl_val rfl hy rfl h2 h
theorem s_extr {i : Nat} {v : Value} (hy : Yields P G n s H ⟨some d, Op.extract x i, ty, pos, af, none⟩ v) (h2 : Nat.blt d n.n = true) (h : SL P G n ops Q rest ((d, v) :: s) H) : SL P G n ops Q (⟨some d, Op.extract x i, ty, pos, af, none⟩ :: rest) s H := sl_val rfl hy rfl h2 h
theorem s_nilc {v : Value} (hy : Yields P G n s H ⟨some d, Op.nilCheck x, ty, pos, af, none⟩ v) (h2 : Nat.blt d n.n = true) (h : SL P G n ops Q rest ((d, v) :: s) H) : SL P G n ops Q (⟨some d, Op.nilCheck x, ty, pos, af, none⟩ :: rest) s H := sl_val rfl hy rfl h2 h
theorem s_call {c : Call} {v : Value} (hy : Yields P G n s H ⟨some d, .call c, ty, pos, af, none⟩ v) (h2 : Nat.blt d n.n = true) (h : SL P G n ops Q rest ((d, v) :: s) H) : SL P G n ops Q (⟨some d, .call c, ty, pos, af, none⟩ :: rest) s H := sl_val rfl hy rfl h2 h
theorem q_bin {Q : Fm → Prop} {op : BinOp} {vx vy : Value} (hx : ev s x = some vx) (hy : ev s y = some vy) (h2 : Nat.blt d n.n = true) (h : BB P op t x y vx vy fun v => SQ P G n ops Q H rest ((d, v) :: s)) : SQ P G n ops Q H (⟨some d, Op.binOp op t x y t', ty, pos, af, none⟩ :: rest) s := by
  obtain ⟨v, h3, h4⟩ := h
  exact sq_val rfl (yb rfl hx hy h3) rfl h2 h4
theorem q_load {Q : Fm → Prop} {vx : Value} (hx : ev s x = some vx) (h2 : Nat.blt d n.n = true) (h : LD P G H t vx fun v => SQ P G n ops Q H rest ((d, v) :: s)) : SQ P G n ops Q H (⟨some d, Op.load t x, ty, pos, af, none⟩ :: rest) s := by
  obtain ⟨v, h3, h4⟩ := h
  exact sq_val rfl (fun a w ha hw => by unfold execOp; simp only [ha.ev hx]; exact run_value (h3 w hw)) rfl h2 h4
theorem q_pick {Q : Fm → Prop} {c : Operand} {b : Bool} (hc : ev s c = some (.bool b)) (h2 : Nat.blt d n.n = true) (h : PK s b x y fun v => SQ P G n ops Q H rest ((d, v) :: s)) : SQ P G n ops Q H (⟨some d, Op.pick c x y, ty, pos, af, none⟩ :: rest) s := by
  obtain ⟨v, h3, h4⟩ := h
  exact sq_val rfl (fun a w ha _ => by unfold execOp; simp only [ha.ev hc, asBool, Sem.run_bind, Sem.run_pure, Result.andThen_ok, h3 n a ha]) rfl h2 h4
theorem q_move {Q : Fm → Prop} {v : Value} (hx : ev s x = some v) (h2 : Nat.blt d n.n = true) (h : SQ P G n ops Q H rest ((d, v) :: s)) : SQ P G n ops Q H (⟨some d, Op.move x, ty, pos, af, none⟩ :: rest) s := sq_val rfl (y_move rfl hx) rfl h2 h
theorem q_asgn {Q : Fm → Prop} {v : Value} (hx : ev s x = some v) (h2 : Nat.blt d n.n = true) (h : SQ P G n ops Q H rest ((d, v) :: s)) : SQ P G n ops Q H (⟨some d, Op.assign x, ty, pos, af, none⟩ :: rest) s := sq_val rfl (y_assign rfl hx) rfl h2 h
theorem q_field {Q : Fm → Prop} {i : Nat} {v : Value} (hy : Yields P G n s H ⟨some d, Op.fieldAddr t x i, ty, pos, af, none⟩ v) (h2 : Nat.blt d n.n = true) (h : SQ P G n ops Q H rest ((d, v) :: s)) : SQ P G n ops Q H (⟨some d, Op.fieldAddr t x i, ty, pos, af, none⟩ :: rest) s := sq_val rfl hy rfl h2 h
theorem q_indexA {Q : Fm → Prop} {v : Value} (hy : Yields P G n s H ⟨some d, Op.indexAddr t x y, ty, pos, af, none⟩ v) (h2 : Nat.blt d n.n = true) (h : SQ P G n ops Q H rest ((d, v) :: s)) : SQ P G n ops Q H (⟨some d, Op.indexAddr t x y, ty, pos, af, none⟩ :: rest) s := sq_val rfl hy rfl h2 h
theorem q_conv {Q : Fm → Prop} {v : Value} (hy : Yields P G n s H ⟨some d, Op.convert t t' x, ty, pos, af, none⟩ v) (h2 : Nat.blt d n.n = true) (h : SQ P G n ops Q H rest ((d, v) :: s)) : SQ P G n ops Q H (⟨some d, Op.convert t t' x, ty, pos, af, none⟩ :: rest) s := sq_val rfl hy rfl h2 h
theorem q_extr {Q : Fm → Prop} {i : Nat} {v : Value} (hy : Yields P G n s H ⟨some d, Op.extract x i, ty, pos, af, none⟩ v) (h2 : Nat.blt d n.n = true) (h : SQ P G n ops Q H rest ((d, v) :: s)) : SQ P G n ops Q H (⟨some d, Op.extract x i, ty, pos, af, none⟩ :: rest) s := sq_val rfl hy rfl h2 h
theorem q_nilc {Q : Fm → Prop} {v : Value} (hy : Yields P G n s H ⟨some d, Op.nilCheck x, ty, pos, af, none⟩ v) (h2 : Nat.blt d n.n = true) (h : SQ P G n ops Q H rest ((d, v) :: s)) : SQ P G n ops Q H (⟨some d, Op.nilCheck x, ty, pos, af, none⟩ :: rest) s := sq_val rfl hy rfl h2 h
theorem q_call {Q : Fm → Prop} {c : Call} {v : Value} (hy : Yields P G n s H ⟨some d, .call c, ty, pos, af, none⟩ v) (h2 : Nat.blt d n.n = true) (h : SQ P G n ops Q H rest ((d, v) :: s)) : SQ P G n ops Q H (⟨some d, .call c, ty, pos, af, none⟩ :: rest) s := sq_val rfl hy rfl h2 h
end
end Go.Sx
namespace Go.Sx
open Go Go.RowKit Go.Fw
section
variable {P : Program} {G : Ctx} {n : Sz} {ops : Array Oper} {Q : Post} {s : Fm} {H : List Ent} {rest : List Oper} {d : Option Nat} {ty : TypeId} {pos : String} {af : Array Edge} {K : Value → Prop} {x y : Operand} {t t' : TypeId} {i : Nat} {vx vy : Value}
theorem ks_move (h : SL P G n ops Q (⟨d, Op.move x, ty, pos, af, none⟩ :: rest) s H) : SL P G n ops Q (⟨d, Op.move x, ty, pos, af, none⟩ :: rest) s H := h
theorem ks_bin {op : BinOp} (h : SL P G n ops Q (⟨d, Op.binOp op t x y t', ty, pos, af, none⟩ :: rest) s H) : SL P G n ops Q (⟨d, Op.binOp op t x y t', ty, pos, af, none⟩ :: rest) s H := h
theorem ks_load (h : SL P G n ops Q (⟨d, Op.load t x, ty, pos, af, none⟩ :: rest) s H) : SL P G n ops Q (⟨d, Op.load t x, ty, pos, af, none⟩ :: rest) s H := h
theorem ks_asgn (h : SL P G n ops Q (⟨d, Op.assign x, ty, pos, af, none⟩ :: rest) s H) : SL P G n ops Q (⟨d, Op.assign x, ty, pos, af, none⟩ :: rest) s H := h
theorem ks_pick {c : Operand} (h : SL P G n ops Q (⟨d, Op.pick c x y, ty, pos, af, none⟩ :: rest) s H) : SL P G n ops Q (⟨d, Op.pick c x y, ty, pos, af, none⟩ :: rest) s H := h
theorem ks_field (h : SL P G n ops Q (⟨d, Op.fieldAddr t x i, ty, pos, af, none⟩ :: rest) s H) : SL P G n ops Q (⟨d, Op.fieldAddr t x i, ty, pos, af, none⟩ :: rest) s H := h
theorem ks_un {u : UnOp} (h : SL P G n ops Q (⟨d, Op.unOp u t x, ty, pos, af, none⟩ :: rest) s H) : SL P G n ops Q (⟨d, Op.unOp u t x, ty, pos, af, none⟩ :: rest) s H := h
theorem ks_extr (h : SL P G n ops Q (⟨d, Op.extract x i, ty, pos, af, none⟩ :: rest) s H) : SL P G n ops Q (⟨d, Op.extract x i, ty, pos, af, none⟩ :: rest) s H := h
theorem ks_build {parts : Array (Nat × Operand)} (h : SL P G n ops Q (⟨d, Op.build t parts, ty, pos, af, none⟩ :: rest) s H) : SL P G n ops Q (⟨d, Op.build t parts, ty, pos, af, none⟩ :: rest) s H := h
theorem ks_conv (h : SL P G n ops Q (⟨d, Op.convert t t' x, ty, pos, af, none⟩ :: rest) s H) : SL P G n ops Q (⟨d, Op.convert t t' x, ty, pos, af, none⟩ :: rest) s H := h
theorem ks_index (h : SL P G n ops Q (⟨d, Op.index t x y, ty, pos, af, none⟩ :: rest) s H) : SL P G n ops Q (⟨d, Op.index t x y, ty, pos, af, none⟩ :: rest) s H := h
theorem ks_indexA (h : SL P G n ops Q (⟨d, Op.indexAddr t x y, ty, pos, af, none⟩ :: rest) s H) : SL P G n ops Q (⟨d, Op.indexAddr t x y, ty, pos, af, none⟩ :: rest) s H := h
theorem ks_nilc (h : SL P G n ops Q (⟨d, Op.nilCheck x, ty, pos, af, none⟩ :: rest) s H) : SL P G n ops Q (⟨d, Op.nilCheck x, ty, pos, af, none⟩ :: rest) s H := h
theorem ks_store (h : SL P G n ops Q (⟨d, Op.store t x y, ty, pos, af, none⟩ :: rest) s H) : SL P G n ops Q (⟨d, Op.store t x y, ty, pos, af, none⟩ :: rest) s H := h
theorem ks_box (h : SL P G n ops Q (⟨d, Op.box t x, ty, pos, af, none⟩ :: rest) s H) : SL P G n ops Q (⟨d, Op.box t x, ty, pos, af, none⟩ :: rest) s H := h
theorem ks_alloc (h : SL P G n ops Q (⟨d, Op.alloc t, ty, pos, af, none⟩ :: rest) s H) : SL P G n ops Q (⟨d, Op.alloc t, ty, pos, af, none⟩ :: rest) s H := h
theorem ks_bs {parts : Array (Nat × Operand)} (h : SL P G n ops Q (⟨d, Op.buildSlice t i parts, ty, pos, af, none⟩ :: rest) s H) : SL P G n ops Q (⟨d, Op.buildSlice t i parts, ty, pos, af, none⟩ :: rest) s H := h
theorem ks_fn {xs : Array Operand} {ats : Array TypeId} (h : SL P G n ops Q (⟨d, Op.call { callee := .value (.func i), args := xs, argTypes := ats }, ty, pos, af, none⟩ :: rest) s H) : SL P G n ops Q (⟨d, Op.call { callee := .value (.func i), args := xs, argTypes := ats }, ty, pos, af, none⟩ :: rest) s H := h
theorem ks_bi {b : Builtin} {xs : Array Operand} {ats : Array TypeId} (h : SL P G n ops Q (⟨d, Op.call { callee := .builtin b, args := xs, argTypes := ats }, ty, pos, af, none⟩ :: rest) s H) : SL P G n ops Q (⟨d, Op.call { callee := .builtin b, args := xs, argTypes := ats }, ty, pos, af, none⟩ :: rest) s H := h
theorem ks_guard {op : Op} {g : Nat × Bool} (h : SL P G n ops Q (⟨d, op, ty, pos, af, some g⟩ :: rest) s H) : SL P G n ops Q (⟨d, op, ty, pos, af, some g⟩ :: rest) s H := h
theorem ks_nil (h : SL P G n ops Q [] s H) : SL P G n ops Q [] s H := h
theorem kq_move {Q : Fm → Prop} (h : SQ P G n ops Q H (⟨d, Op.move x, ty, pos, af, none⟩ :: rest) s) : SQ P G n ops Q H (⟨d, Op.move x, ty, pos, af, none⟩ :: rest) s := h
theorem kq_bin {Q : Fm → Prop} {op : BinOp} (h : SQ P G n ops Q H (⟨d, Op.binOp op t x y t', ty, pos, af, none⟩ :: rest) s) : SQ P G n ops Q H (⟨d, Op.binOp op t x y t', ty, pos, af, none⟩ :: rest) s := h
theorem kq_load {Q : Fm → Prop} (h : SQ P G n ops Q H (⟨d, Op.load t x, ty, pos, af, none⟩ :: rest) s) : SQ P G n ops Q H (⟨d, Op.load t x, ty, pos, af, none⟩ :: rest) s := h
theorem kq_asgn {Q : Fm → Prop} (h : SQ P G n ops Q H (⟨d, Op.assign x, ty, pos, af, none⟩ :: rest) s) : SQ P G n ops Q H (⟨d, Op.assign x, ty, pos, af, none⟩ :: rest) s := h
theorem kq_pick {Q : Fm → Prop} {c : Operand} (h : SQ P G n ops Q H (⟨d, Op.pick c x y, ty, pos, af, none⟩ :: rest) s) : SQ P G n ops Q H (⟨d, Op.pick c x y, ty, pos, af, none⟩ :: rest) s := h
theorem kq_field {Q : Fm → Prop} (h : SQ P G n ops Q H (⟨d, Op.fieldAddr t x i, ty, pos, af, none⟩ :: rest) s) : SQ P G n ops Q H (⟨d, Op.fieldAddr t x i, ty, pos, af, none⟩ :: rest) s := h
theorem kq_extr {Q : Fm → Prop} (h : SQ P G n ops Q H (⟨d, Op.extract x i, ty, pos, af, none⟩ :: rest) s) : SQ P G n ops Q H (⟨d, Op.extract x i, ty, pos, af, none⟩ :: rest) s := h
theorem kq_conv {Q : Fm → Prop} (h : SQ P G n ops Q H (⟨d, Op.convert t t' x, ty, pos, af, none⟩ :: rest) s) : SQ P G n ops Q H (⟨d, Op.convert t t' x, ty, pos, af, none⟩ :: rest) s := h
theorem kq_indexA {Q : Fm → Prop} (h : SQ P G n ops Q H (⟨d, Op.indexAddr t x y, ty, pos, af, none⟩ :: rest) s) : SQ P G n ops Q H (⟨d, Op.indexAddr t x y, ty, pos, af, none⟩ :: rest) s := h
theorem kq_nilc {Q : Fm → Prop} (h : SQ P G n ops Q H (⟨d, Op.nilCheck x, ty, pos, af, none⟩ :: rest) s) : SQ P G n ops Q H (⟨d, Op.nilCheck x, ty, pos, af, none⟩ :: rest) s := h
theorem kq_fn {Q : Fm → Prop} {xs : Array Operand} {ats : Array TypeId} (h : SQ P G n ops Q H (⟨d, Op.call { callee := .value (.func i), args := xs, argTypes := ats }, ty, pos, af, none⟩ :: rest) s) : SQ P G n ops Q H (⟨d, Op.call { callee := .value (.func i), args := xs, argTypes := ats }, ty, pos, af, none⟩ :: rest) s := h
theorem kq_bi {Q : Fm → Prop} {b : Builtin} {xs : Array Operand} {ats : Array TypeId} (h : SQ P G n ops Q H (⟨d, Op.call { callee := .builtin b, args := xs, argTypes := ats }, ty, pos, af, none⟩ :: rest) s) : SQ P G n ops Q H (⟨d, Op.call { callee := .builtin b, args := xs, argTypes := ats }, ty, pos, af, none⟩ :: rest) s := h
theorem kq_guard {Q : Fm → Prop} {op : Op} {g : Nat × Bool} (h : SQ P G n ops Q H (⟨d, op, ty, pos, af, some g⟩ :: rest) s) : SQ P G n ops Q H (⟨d, op, ty, pos, af, some g⟩ :: rest) s := h
theorem kq_nil {Q : Fm → Prop} (h : SQ P G n ops Q H [] s) : SQ P G n ops Q H [] s := h
theorem kb_add (h : BB P .add t x y vx vy K) : BB P .add t x y vx vy K := h
theorem kb_sub (h : BB P .sub t x y vx vy K) : BB P .sub t x y vx vy K := h
theorem kb_mul (h : BB P .mul t x y vx vy K) : BB P .mul t x y vx vy K := h
theorem kb_quo (h : BB P .quo t x y vx vy K) : BB P .quo t x y vx vy K := h
theorem kb_rem (h : BB P .rem t x y vx vy K) : BB P .rem t x y vx vy K := h
theorem kb_and (h : BB P .and t x y vx vy K) : BB P .and t x y vx vy K := h
theorem kb_shr (h : BB P .shr t x y vx vy K) : BB P .shr t x y vx vy K := h
theorem kp_t (h : PK s true x y K) : PK s true x y K := h
theorem kp_f (h : PK s false x y K) : PK s false x y K := h
end
end Go.Sx
end
section
namespace Go.Sx
open Go Go.RowKit Go.Fw
section
variable {P : Program} {G : Ctx} {n : Sz} {ops : Array Oper} {Q : Post} {s : Fm} {H : List Ent} {o : Oper} {rest : List Oper}
/-- The bounds of a piece. -/
def bnd (s : Fm) (dflt : Nat) : Option Operand → Option Int
  | none => some dflt
  | some x => match ev s x with
    | some (.int _ i) => some i
    | _ => none
theorem run_bounds {isSl : Bool} {w : World} {len cap : Nat} {lo hi : Option Operand} {l h : Int} {a : Act} (ha : Fr n s a) (hl : bnd s 0 lo = some l) (hh : bnd s len hi = some h) (h0 : 0 ≤ l) (h1 : l ≤ h) (h2 : h ≤ cap) :
    (Instr.sliceBounds isSl len cap (lo.map a.eval) (hi.map a.eval) none).run P w = .ok (l.toNat, h.toNat, cap) w := by
  have key : ∀ (x : Option Operand) (d : Nat) (v : Int) (y : Nat) (c : BoundsCode), bnd s d x = some v → 0 ≤ v → v ≤ y →
      (match x.map a.eval with | some u => Instr.sliceBound u y c | none => pure d : Sem Nat).run P w = .ok v.toNat w := by
    intro x d v y c hb h0 hy
    cases x with
    | none => simp only [bnd, Option.some.injEq] at hb; subst hb; simp [Sem.run]
    | some x =>
      obtain ⟨k, he⟩ : ∃ k, ev s x = some (.int k v) := by
        simp only [bnd] at hb
        cases he : ev s x with
        | none => rw [he] at hb; cases hb
        | some u =>
          rw [he] at hb
          cases u <;> (first | (cases hb; done) | (simp only [Option.some.injEq] at hb; subst hb; exact ⟨_, rfl⟩))
      simp only [Option.map_some, ha.ev he, Instr.sliceBound, asIntOf, Sem.run_bind, Sem.run_pure, Result.andThen_ok]
      rw [if_pos ⟨h0, hy⟩, Sem.run_pure]
  have k1 := key hi len h cap (if isSl then .sliceAcap else .sliceAlen) hh (by omega) h2
  have k2 := key lo 0 l h.toNat .sliceB hl h0 (by omega)
  unfold Instr.sliceBounds
  cases lo <;> cases hi <;> simp only [Option.map_none, Option.map_some] at k1 k2 ⊢ <;> simp_all [Sem.run]
theorem c_sliceStr {t : TypeId} {x : Operand} {lo hi : Option Operand} {b : ByteArray} {l h : Int} (ho : o.op = .slice t x lo hi none) [ht : StrT P t] (hx : ev s x = some (.string b)) (hl : bnd s 0 lo = some l) (hh : bnd s b.size hi = some h) (h0 : 0 ≤ l) (h1 : l ≤ h) (h2 : h ≤ b.size) :
    Yields P G n s H o (.string (b.extract l.toNat h.toNat)) := fun a w ha _ => by
  unfold execOp; rw [ho]; simp only [ha.ev hx]
  refine run_value ?_
  have hb := run_bounds (P := P) (isSl := false) (w := w) (cap := b.size) ha hl hh h0 h1 h2
  simp only [Instr.sliceAt, Sem.run_bind, run_underlying ht.here, Result.andThen_ok, Instr.slice, Option.map_none, Option.isSome_none]
  simp [hb, Sem.run]
/-- A piece of a slice: what can be read there. -/
theorem Rd.piece {a : Option Addr} {xs : List Value} {l m : Nat} (h : Rd G H a xs) (hm : l + m ≤ xs.length) : Rd G H (a.map (·.add l)) ((xs.drop l).take m) := fun w hw => by
  rcases Nat.eq_zero_or_pos m with h0 | h0
  · left; subst h0; exact List.take_zero
  · obtain ⟨b, off, rfl, hc⟩ := At.someAt (h w hw) (by omega)
    have hb : b < w.heap.size := by
      have := hc 0 (by omega)
      rw [List.getElem?_eq_getElem (by omega)] at this
      exact World.block_lt_of_cell? w _ this
    right
    refine ⟨b, off + l, by simp [Addr.add_mid], hb, fun i hi => ?_⟩
    rw [List.length_take, List.length_drop] at hi
    rw [List.getElem?_take, if_pos (by omega), List.getElem?_drop, Nat.add_assoc]
    exact hc (l + i) (by omega)
theorem c_sliceSl {t e sz bytes : Nat} {x : Operand} {lo hi : Option Operand} {a : Option Addr} {len c d : Nat} {l h : Int} {Hr : List Ent} {xs : List Value} (hg : o.guard = none) (ho : o.op = .slice t x lo hi none) [hT : SliceT P t e sz bytes] (hx : ev s x = some (.slice a len c)) (hl : bnd s 0 lo = some l) (hh : bnd s len hi = some h)
    (hr : Rd G Hr a xs) (hlen : xs.length = len * sz) (h0 : 0 ≤ l) (h1 : l ≤ h) (h2 : h ≤ len) (h3 : len ≤ c) (h1d : o.dst = some d) (h2d : Nat.blt d n.n = true)
    (hk : ∀ a', RdC G Hr a' ((xs.drop (l.toNat * sz)).take ((h.toNat - l.toNat) * sz)) → SL P G n ops Q rest ((d, .slice a' (h.toNat - l.toNat) (c - l.toNat)) :: s) H) : SL P G n ops Q (o :: rest) s H := by
  obtain ⟨hu, hsz, -, -⟩ := hT.here
  have hS := hT.size
  refine sl_val (v := .slice (if c = l.toNat then a else a.map (·.add (l.toNat * sz))) (h.toNat - l.toNat) (c - l.toNat)) hg (fun act w ha _ => ?_) h1d h2d (hk _ ⟨?_⟩)
  · unfold execOp; rw [ho]; simp only [ha.ev hx]
    refine run_value ?_
    have hb := run_bounds (P := P) (isSl := true) (w := w) (cap := c) ha hl hh h0 h1 (by omega)
    cases hq : P.info? e with
    | none => simp [hq] at hS
    | some inf =>
      have hs : inf.size = sz := by simpa [hq] using hS
      have hz : (sizeOf e).run P w = .ok sz w := by simp [sizeOf, typeInfo, program, Sem.run, hq, hs]
      simp only [Instr.sliceAt, Sem.run_bind, run_underlying hu, Result.andThen_ok, Instr.slice, Option.map_none]
      simp [hb, hz, Sem.run]
  · split
    · rename_i hc
      have e0 : (h.toNat - l.toNat) * sz = 0 := by rw [show h.toNat - l.toNat = 0 from by omega, Nat.zero_mul]
      rw [e0, List.take_zero]
      exact fun w _ => At.nil w a
    · refine hr.piece ?_
      rw [hlen, ← Nat.add_mul]
      exact Nat.mul_le_mul_right _ (by omega)
/-- A builtin that only reckons. -/
theorem c_bi {b : Builtin} {xs : Array Operand} {ats : Array TypeId} {vs : List Value} {v : Value} (ho : o.op = .call { callee := .builtin b, args := xs, argTypes := ats }) (he : evs s xs.toList = some vs) (hb : (match b with | .min | .max | .cap => true | _ => false) = true)
    (hs : still P (match b with | .min => Builtin.min_ ats o.type vs.toArray | .max => Builtin.max_ ats o.type vs.toArray | _ => Builtin.cap_ ats o.type vs.toArray) = some v) : Yields P G n s H o v := fun a w ha _ => by
  have e1 : xs.map a.eval = vs.toArray := by rw [← (evs_of he).map ha, ← List.map_toArray, Array.toArray_toList]
  unfold execOp; rw [ho]
  simp only [resolve, invoke, Sem.run_bind, Sem.run_pure, Result.andThen_ok, e1]
  cases b <;> (first | (cases hb; done) | (simp only [builtin]; exact run_value (still_run _ _ hs w)))
theorem ks_slice {x : Operand} {t : TypeId} {lo hi mx : Option Operand} {d : Option Nat} {ty : TypeId} {pos : String} {af : Array Edge} (h : SL P G n ops Q (⟨d, .slice t x lo hi mx, ty, pos, af, none⟩ :: rest) s H) : SL P G n ops Q (⟨d, .slice t x lo hi mx, ty, pos, af, none⟩ :: rest) s H := h
theorem s_slice {x : Operand} {t : TypeId} {lo hi mx : Option Operand} {d : Nat} {v : Value} {ty : TypeId} {pos : String} {af : Array Edge} (hy : Yields P G n s H ⟨some d, .slice t x lo hi mx, ty, pos, af, none⟩ v) (h2 : Nat.blt d n.n = true) (h : SL P G n ops Q rest ((d, v) :: s) H) : SL P G n ops Q (⟨some d, .slice t x lo hi mx, ty, pos, af, none⟩ :: rest) s H := sl_val rfl hy rfl h2 h
theorem zero_info {e : TypeId} {z : Value} (h : still P (zeroValue e) = some z) : ∃ i, P.info? e = some i ∧ i.zero = some z := by
  cases hq : P.info? e with
  | none => simp [zeroValue, typeInfo, program, still, bind, Sem.bind, hq, stuck] at h
  | some i =>
    refine ⟨i, rfl, ?_⟩
    cases hz : i.zero with
    | none => simp [zeroValue, typeInfo, program, still, bind, Sem.bind, hq, hz, unsupported, pure] at h
    | some u => simpa [zeroValue, typeInfo, program, still, bind, Sem.bind, hq, hz, pure] using h
end
end Go.Sx
namespace Go.Sx
open Go Go.RowKit Go.Fw
section
variable {P : Program} {G : Ctx} {n : Sz} {ops : Array Oper} {s : Fm} {H : List Ent} {o : Oper} {rest : List Oper}
end
end Go.Sx
namespace Go.Sx
open Go Go.RowKit Go.Fw
/-- The bytes of a string, as numbers. -/
def nums (b : ByteArray) : List Int := b.data.toList.map fun x => (x.toNat : Int)
theorem nums_length (b : ByteArray) : (nums b).length = b.size := by unfold nums; rw [List.length_map, Array.length_toList]; rfl
theorem nums_bound (b : ByteArray) : ∀ x ∈ nums b, 0 ≤ x ∧ x ≤ 255 := fun x hx => by
  simp only [nums, List.mem_map] at hx
  obtain ⟨u, -, rfl⟩ := hx
  have := u.toNat_lt
  omega
theorem strOf_nums (b : ByteArray) : strOfNums (nums b) = b := by
  show (⟨((nums b).map fun n => UInt8.ofNat n.toNat).toArray⟩ : ByteArray) = b
  have e : (nums b).map (fun n => UInt8.ofNat n.toNat) = b.data.toList := by
    simp only [nums, List.map_map]
    refine (List.map_congr_left fun x _ => ?_).trans (List.map_id _)
    simp
  rw [e]
theorem nums_strOf {xs : List Int} (h : ∀ x ∈ xs, 0 ≤ x ∧ x ≤ 255) : nums (strOfNums xs) = xs := by
  show ((xs.map fun n => UInt8.ofNat n.toNat).toArray.toList.map fun x => (x.toNat : Int)) = xs
  rw [List.toList_toArray, List.map_map]
  refine (List.map_congr_left fun x hx => ?_).trans (List.map_id _)
  have := h x hx
  simp
  omega
theorem nums_inj {a b : ByteArray} (h : nums a = nums b) : a = b := by rw [← strOf_nums a, h, strOf_nums]
theorem nums_append (a b : ByteArray) : nums (a ++ b) = nums a ++ nums b := by
  unfold nums
  rw [show (a ++ b).data = a.data ++ b.data from ByteArray.data_append ..]
  simp
theorem nums_extract (b : ByteArray) (l h : Nat) : nums (b.extract l h) = ((nums b).drop l).take (h - l) := by
  unfold nums
  rw [show (b.extract l h).data = b.data.extract l h from ByteArray.data_extract ..]
  simp [List.map_take, List.map_drop]
theorem nums_at (b : ByteArray) (k : Nat) (h : k < b.size) : ∃ v : UInt8, b[k]? = some v ∧ (v.toNat : Int) = (nums b).getD k 0 := by
  have h' : k < b.data.toList.length := by simpa using h
  refine ⟨b[k], by simp [getElem?_pos, h], ?_⟩
  simp only [nums, List.getD_eq_getElem?_getD, List.getElem?_map, List.getElem?_eq_getElem h', Option.map_some, Option.getD_some]
  congr 1
/-- What a conversion of a string to bytes lays. -/
def bytesObj (e : TypeId) (xs : List Int) (m : Nat) : Obj := .cells (octs xs ++ List.replicate m (Value.int .u8 0)).toArray e (xs.length + m, xs.length + m + 1)
section
variable {P : Program} {G : Ctx} {n : Sz} {ops : Array Oper} {Q : Post} {s : Fm} {H : List Ent} {o : Oper} {rest : List Oper}
instance rdBytes {g : Nat} {e : TypeId} {xs : List Int} {m : Nat} : RdC G (.obj g (bytesObj e xs m) :: H) (some ⟨g, 0, none⟩) (octs xs) := ⟨fun w hw => by
  have h := hw.ok _ (List.mem_cons_self (a := Ent.obj g (bytesObj e xs m)))
  have h2 := row_at (show w.heap[g]? = some (.cells (octs xs ++ List.replicate m (Value.int .u8 0)).toArray e (xs.length + m, xs.length + m + 1)) from h.2)
  rcases h2 with h2 | ⟨b, off, e1, h3, h4⟩
  · exact .inl (List.append_eq_nil_iff.1 h2).1
  · refine .inr ⟨b, off, e1, h3, fun i hi => ?_⟩
    rw [h4 i (by rw [List.length_append]; omega), List.getElem?_append_left hi]⟩
theorem Holds.obj {w w' : World} {o : Obj} (h : Holds G H w) (h1 : w'.heap.size = w.heap.size + 1) (h2 : w'.heap[w.heap.size]? = some o) (h3 : ∀ k, k < w.heap.size → w'.heap[k]? = w.heap[k]?) (e1 : w'.os = w.os) (e2 : w'.tape = w.tape) (e3 : w'.output = w.output) : Holds G (.obj w.heap.size o :: H) w' := by
  refine ⟨⟨e1.trans h.below.os, e2.trans h.below.tape, e3.trans h.below.output, Nat.le_trans h.below.size (by omega), fun j hj => (h3 j (Nat.lt_of_lt_of_le hj h.base)).trans (h.below.block j hj)⟩, Nat.le_trans h.base (by omega), fun x hx => ?_, List.pairwise_cons.2 ⟨fun y hy k hk => ?_, h.apart⟩⟩
  · rcases List.mem_cons.1 hx with rfl | hx
    · exact ⟨h.base, h2⟩
    · exact Ent.ok_of (h.ok x hx) fun k hk => h3 k (Ent.ok_lt (h.ok x hx) hk).2
  · simp only [Ent.key, Option.some.injEq] at hk
    subst hk
    intro e
    exact absurd (Ent.ok_lt (h.ok y hy) e).2 (Nat.lt_irrefl _)
theorem bytesRow_eq (b : ByteArray) (cap : Nat) (hc : b.size ≤ cap) (e : TypeId) : Obj.cells (bytesRow b cap) e ((bytesRow b cap).size, (bytesRow b cap).size + 1) = bytesObj e (nums b) (cap - b.size) := by
  have e1 : bytesRow b cap = (octs (nums b) ++ List.replicate (cap - b.size) (Value.int .u8 0)).toArray := by
    apply Array.toList_inj.1
    simp [bytesRow, octs, nums, List.map_map, Function.comp_def]
  have e2 : (bytesRow b cap).size = (nums b).length + (cap - b.size) := by rw [e1]; simp [octs]
  rw [e2, e1]
  rfl
/-- Bytes to a string. -/
theorem c_convBs {src dst e sz bytes : Nat} {x : Operand} {a : Option Addr} {m c : Nat} {xs : List Int} {vs : List Value} (ho : o.op = .convert src dst x) [hT : SliceT P src e sz bytes] [he : IntT P e .u8] [hs : StrT P dst] (hx : ev s x = some (.slice a m c)) [hr : RdC G H a vs] (hv : vs = octs xs) (hm : m = xs.length) : Yields P G n s H o (.string (strOfNums xs)) := fun act w ha hw => by
  subst hv
  unfold execOp; rw [ho]; simp only [ha.ev hx]
  exact run_value (conv_octs hT.here.1 he.here hs.here c hm (hr.here w hw))
theorem c_indexNum {t : Nat} {x y : Operand} {k : IntKind} {i : Int} {b : ByteArray} (ho : o.op = .index t x y) [h : StrT P t] (hx : ev s x = some (.string b)) (hy : ev s y = some (.int k i)) (h0 : 0 ≤ i) (hi : i < b.size) : Yields P G n s H o (.int .u8 ((nums b).getD i.toNat 0)) := by
  obtain ⟨v, h1, h2⟩ := nums_at b i.toNat (by omega)
  rw [← h2]
  exact c_indexStr ho hx hy h0 h1
variable {K : Value → Prop} {x y : Operand} {t : TypeId}
theorem bb_cat {a b : ByteArray} (h : a.size + b.size ≤ 9223372036854775807) (hk : K (.string (a ++ b))) : BB P .add t x y (.string a) (.string b) K := ⟨_, fun w => by
  have := run_string_add_sum (P := P) w a b h
  simp only [eqGuard, binOp]
  simpa using this, hk⟩
theorem str_beq (a b : ByteArray) : (a.toList == b.toList) = decide (a = b) := by
  rw [Bool.eq_iff_iff, beq_iff_eq, decide_eq_true_eq]
  exact ⟨toList_inj, fun e => by rw [e]⟩
theorem bb_seq {a b : ByteArray} (hk : K (.bool (decide (a = b)))) : BB P .eql t x y (.string a) (.string b) K := ⟨_, fun w => by
  rw [← str_beq]
  rfl, hk⟩
theorem bb_sne {a b : ByteArray} (hk : K (.bool (!decide (a = b)))) : BB P .neq t x y (.string a) (.string b) K := ⟨_, fun w => by
  rw [← str_beq]
  rfl, hk⟩
end
end Go.Sx
namespace Go.Sx
open Go Go.RowKit Go.Fw
/-- Out the plain way alone. -/
def np (Q : Exit → Act → World → Prop) : Exit → Act → World → Prop
  | .normal, a, w => Q .normal a w
  | _, _, _ => False
theorem np_imp {Q : Exit → Act → World → Prop} : ∀ e a w, np Q e a w → Q e a w := fun e a w h => by
  cases e <;> (first | exact h | exact (h : False).elim)
def mkL (m : Nat) (done : List Nat) : Array Bool := ((List.range m).map fun j => done.contains j).toArray
theorem mkL_nil (m : Nat) : mkL m [] = Array.replicate m false := by
  apply Array.toList_inj.1
  simp [mkL, List.map_const']
theorem mkL_set (m i : Nat) (done : List Nat) : (mkL m done).setIfInBounds i true = mkL m (i :: done) := by
  apply Array.ext
  · simp [mkL]
  · intro j h1 h2
    simp only [mkL, List.size_toArray, List.length_map, List.length_range] at h2
    have e2 : (mkL m (i :: done))[j] = (decide (j = i) || done.contains j) := by simp [mkL]
    rw [e2, Array.getElem_setIfInBounds (by simpa [mkL] using h2)]
    by_cases h : i = j
    · subst h; simp
    · rw [if_neg h]
      have : decide (j = i) = false := by simpa using fun e => h e.symm
      rw [this, Bool.false_or]
      simp [mkL]
class NSucc (k : Nat) (m : outParam Nat) : Prop where
  here : m = k + 1
instance : NSucc 0 1 := ⟨rfl⟩
instance : NSucc 1 2 := ⟨rfl⟩
instance : NSucc 2 3 := ⟨rfl⟩
instance : NSucc 3 4 := ⟨rfl⟩
instance : NSucc 4 5 := ⟨rfl⟩
instance : NSucc 5 6 := ⟨rfl⟩
instance : NSucc 6 7 := ⟨rfl⟩
instance : NSucc 7 8 := ⟨rfl⟩
instance : NSucc 8 9 := ⟨rfl⟩
instance : NSucc 9 10 := ⟨rfl⟩
instance : NSucc 10 11 := ⟨rfl⟩
instance : NSucc 11 12 := ⟨rfl⟩
instance : NSucc 12 13 := ⟨rfl⟩
instance : NSucc 13 14 := ⟨rfl⟩
instance : NSucc 14 15 := ⟨rfl⟩
instance : NSucc 15 16 := ⟨rfl⟩
instance : NSucc 16 17 := ⟨rfl⟩
instance : NSucc 17 18 := ⟨rfl⟩
instance : NSucc 18 19 := ⟨rfl⟩
instance : NSucc 19 20 := ⟨rfl⟩
instance : NSucc 20 21 := ⟨rfl⟩
instance : NSucc 21 22 := ⟨rfl⟩
instance : NSucc 22 23 := ⟨rfl⟩
instance : NSucc 23 24 := ⟨rfl⟩
instance : NSucc 24 25 := ⟨rfl⟩
instance : NSucc 25 26 := ⟨rfl⟩
instance : NSucc 26 27 := ⟨rfl⟩
instance : NSucc 27 28 := ⟨rfl⟩
instance : NSucc 28 29 := ⟨rfl⟩
instance : NSucc 29 30 := ⟨rfl⟩
instance : NSucc 30 31 := ⟨rfl⟩
instance : NSucc 31 32 := ⟨rfl⟩
instance : NSucc 32 33 := ⟨rfl⟩
instance : NSucc 33 34 := ⟨rfl⟩
instance : NSucc 34 35 := ⟨rfl⟩
instance : NSucc 35 36 := ⟨rfl⟩
instance : NSucc 36 37 := ⟨rfl⟩
instance : NSucc 37 38 := ⟨rfl⟩
instance : NSucc 38 39 := ⟨rfl⟩
instance : NSucc 39 40 := ⟨rfl⟩
instance : NSucc 40 41 := ⟨rfl⟩
instance : NSucc 41 42 := ⟨rfl⟩
instance : NSucc 42 43 := ⟨rfl⟩
instance : NSucc 43 44 := ⟨rfl⟩
instance : NSucc 44 45 := ⟨rfl⟩
instance : NSucc 45 46 := ⟨rfl⟩
instance : NSucc 46 47 := ⟨rfl⟩
instance : NSucc 47 48 := ⟨rfl⟩
instance : NSucc 48 49 := ⟨rfl⟩
instance : NSucc 49 50 := ⟨rfl⟩
instance : NSucc 50 51 := ⟨rfl⟩
instance : NSucc 51 52 := ⟨rfl⟩
instance : NSucc 52 53 := ⟨rfl⟩
instance : NSucc 53 54 := ⟨rfl⟩
instance : NSucc 54 55 := ⟨rfl⟩
instance : NSucc 55 56 := ⟨rfl⟩
instance : NSucc 56 57 := ⟨rfl⟩
instance : NSucc 57 58 := ⟨rfl⟩
instance : NSucc 58 59 := ⟨rfl⟩
instance : NSucc 59 60 := ⟨rfl⟩
instance : NSucc 60 61 := ⟨rfl⟩
instance : NSucc 61 62 := ⟨rfl⟩
instance : NSucc 62 63 := ⟨rfl⟩
instance : NSucc 63 64 := ⟨rfl⟩
instance : NSucc 64 65 := ⟨rfl⟩
instance : NSucc 65 66 := ⟨rfl⟩
instance : NSucc 66 67 := ⟨rfl⟩
instance : NSucc 67 68 := ⟨rfl⟩
instance : NSucc 68 69 := ⟨rfl⟩
instance : NSucc 69 70 := ⟨rfl⟩
instance : NSucc 70 71 := ⟨rfl⟩
instance : NSucc 71 72 := ⟨rfl⟩
instance : NSucc 72 73 := ⟨rfl⟩
instance : NSucc 73 74 := ⟨rfl⟩
instance : NSucc 74 75 := ⟨rfl⟩
instance : NSucc 75 76 := ⟨rfl⟩
instance : NSucc 76 77 := ⟨rfl⟩
instance : NSucc 77 78 := ⟨rfl⟩
instance : NSucc 78 79 := ⟨rfl⟩
instance : NSucc 79 80 := ⟨rfl⟩
section
variable {P : Program} {G : Ctx} {n : Sz} {ops : Array Oper} {Q : Post} {s : Fm} {H Hs : List Ent} {o : Oper} {fuel : Nat} {done : List Nat}
def SO (P : Program) (G : Ctx) (n : Sz) (ops : Array Oper) (Q : Post) (Hs : List Ent) (fuel : Nat) (done : List Nat) (s : Fm) (H : List Ent) : Prop :=
  (∀ w, Holds G H w → Holds G Hs w) → ∀ a w, Fr n s a → Holds G H w → wpAnyH P .any ops (np (lift G n Q)) (Holds G Hs) fuel (mkL ops.size done) a w
/-- The same, at place k. -/
def SOT (P : Program) (G : Ctx) (n : Sz) (ops : Array Oper) (Q : Post) (Hs : List Ent) (fuel : Nat) (done : List Nat) (s : Fm) (H : List Ent) (_k : Nat) : Prop := SO P G n ops Q Hs fuel done s H
def soQ (P : Program) (G : Ctx) (n : Sz) (ops : Array Oper) (Q : Post) (Hs : List Ent) (fuel : Nat) (done : List Nat) : Post
  | .normal, s, H => (∀ w, Holds G H w → Holds G Hs w) ∧ SO P G n ops Q Hs fuel done s H
  | _, _, _ => False
theorem c_drawno {id : Nat} {l : List Oper} [h : Wide P] (Hs : List Ent) (hs : ∀ w, Holds G H w → Holds G Hs w) (hk : SOT P G n l.toArray Q Hs l.length [] s H 0) : SW P G n (.region id l.toArray true) Q s H := fun a w ha hw => by
  refine Code.wp_mono np_imp (wp_region_held (S := Holds G Hs) h.here ?_)
  have := hk hs a _ ha hw.drew
  rw [mkL_nil] at this
  simpa using this
theorem so_back {k : Nat} (hs : ∀ w, Holds G H w → Holds G Hs w) (h : SOT P G n ops Q Hs fuel done s H k) : AtQ (soQ P G n ops Q Hs fuel done) .normal s H := ⟨hs, h⟩
theorem so_done {k : Nat} (hr : (Region.ready .any ops (mkL ops.size done)).isEmpty = true) (h : AtQ Q .normal s H) : SOT P G n ops Q Hs fuel done s H k := fun _ a w ha hw =>
  wpAnyH_done (List.isEmpty_iff.1 hr) ⟨s, H, ha, hw, h⟩ _
theorem sot_skip {k m : Nat} [hm : NSucc k m] (_hk : done.contains k = true) (h : SOT P G n ops Q Hs fuel done s H m) : SOT P G n ops Q Hs fuel done s H k := h
theorem sot_next {k m : Nat} [hm : NSucc k m] (_hk : Nat.blt k ops.size = true) (h : SOT P G n ops Q Hs fuel done s H m) : SOT P G n ops Q Hs fuel done s H k := h
/-- What an operation yields by reading alone. -/
def SY (P : Program) (G : Ctx) (n : Sz) (Hs : List Ent) (o : Oper) (s : Fm) (K : Value → Prop) : Prop := ∃ v, Yields P G n s Hs o v ∧ K v
theorem sot_take {k m d : Nat} [hm : NSucc k m] (ho : ops[k]? = some o) (hg : o.guard = none) (hd : o.dst = some d) (h2 : Nat.blt d n.n = true) (hns : Region.noSelect ops = true) (hr : (Region.ready .any ops (mkL ops.size done)).contains k = true) (hf : Region.free .any ops (mkL ops.size done) k = true)
    (h : SY P G n Hs o s fun v => SOT P G n ops Q Hs fuel (k :: done) ((d, v) :: s) H m) : SOT P G n ops Q Hs (fuel + 1) done s H k := fun hs a w ha hw => by
  obtain ⟨v, hy, hk⟩ := h
  refine wpAnyH_take (v := v) ho hns hf hr (fun _ _ _ e => e) (.inl ⟨Want.wanted (.inl hg) ha, fun w' hw' => hy a w' ha hw'⟩) (hs w hw) ?_
  rw [mkL_set]
  refine hk hs _ w ?_ hw
  rw [← updd hd v]
  exact ha.put _ _ (okd hd h2)
theorem Oper.wp_imp {o : Oper} {a : Act} {w : World} {K K' : Act → World → Prop} {Q Q' : Exit → Act → World → Prop} (h : ∀ a w, K a w → K' a w) (hQ : ∀ c a w, ¬ Q (.panic c) a w) (hQ2 : ∀ a w, ¬ Q .outgrown a w) (hh : o.wp P a w K Q) : o.wp P a w K' Q' := by
  unfold Oper.wp at *
  generalize (execOp a.eval o).run P w = r at *
  cases r with
  | ok n w' =>
    cases n <;> simp only [Oper.upon] at hh ⊢
    case value => exact h _ _ hh
    case skip => exact h _ _ hh
    case defer => exact h _ _ hh
    case enter =>
      refine Calls.mono hh fun e w'' he => ?_
      cases e with
      | returned u => exact h _ _ he
      | panicked c => exact absurd he (hQ _ _ _)
      | outgrown => obtain ⟨a, w, he⟩ := he; exact absurd he (hQ2 _ _)
    case row => exact Rows.mono hh fun _ _ he => h _ _ he
  | halt x w' =>
    cases x <;> simp only [Oper.upon] at hh ⊢
    case panic => exact absurd hh (hQ _ _ _)
/-- One of the operations from place k on that may come up comes up. -/
def SOA (P : Program) (G : Ctx) (n : Sz) (ops : Array Oper) (Q : Post) (Hs : List Ent) (fuel : Nat) (done : List Nat) (s : Fm) (H : List Ent) (k : Nat) : Prop :=
  ∀ i, k ≤ i → i ∈ Region.ready .any ops (mkL ops.size done) → ∃ o, ops[i]? = some o ∧ SL P G n ops (soQ P G n ops Q Hs fuel (i :: done)) [o] s H
theorem soa_end {k : Nat} (hk : Nat.ble ops.size k = true) : SOA P G n ops Q Hs fuel done s H k := fun i hi hr => by
  have := (mem_ready.1 hr).2
  obtain ⟨o, ho, -⟩ := this
  have h1 := Nat.le_of_ble_eq_true hk
  rw [Array.getElem?_eq_none (by omega)] at ho
  cases ho
theorem soa_no {k m : Nat} [hm : NSucc k m] (hr : (Region.ready .any ops (mkL ops.size done)).contains k = false) (h : SOA P G n ops Q Hs fuel done s H m) : SOA P G n ops Q Hs fuel done s H k := fun i hi hi2 => by
  rcases Nat.eq_or_lt_of_le hi with rfl | hlt
  · rw [List.contains_eq_mem, decide_eq_false_iff_not] at hr
    exact absurd hi2 hr
  · exact h i (by rw [hm.here]; omega) hi2
theorem soa_yes {k m : Nat} [hm : NSucc k m] (ho : ops[k]? = some o) (h1 : SL P G n ops (soQ P G n ops Q Hs fuel (k :: done)) [o] s H) (h : SOA P G n ops Q Hs fuel done s H m) : SOA P G n ops Q Hs fuel done s H k := fun i hi hi2 => by
  rcases Nat.eq_or_lt_of_le hi with rfl | hlt
  · exact ⟨o, ho, h1⟩
  · exact h i (by rw [hm.here]; omega) hi2
theorem sot_all {k : Nat} (hr : (Region.ready .any ops (mkL ops.size done)).isEmpty = false) (h : SOA P G n ops Q Hs fuel done s H 0) : SOT P G n ops Q Hs (fuel + 1) done s H k := fun hs a w ha hw => by
  refine wpAnyH_all rfl (fun e => by rw [e] at hr; cases hr) fun i hi => ?_
  obtain ⟨o, ho, hsl⟩ := h i (Nat.zero_le _) hi
  have h1 := hsl a w ha hw
  rw [mkL_set]
  unfold wpList at h1
  unfold wpOp
  simp only [ho]
  have hK : ∀ a w, wpList P ops (lift G n (soQ P G n ops Q Hs fuel (i :: done))) [] a w → Holds G Hs w ∧ wpAnyH P .any ops (np (lift G n Q)) (Holds G Hs) fuel (mkL ops.size (i :: done)) a w := fun a w hq => by
    obtain ⟨s', H', ha', hw', h2, h3⟩ := hq
    exact ⟨h2 w hw', h3 h2 a w ha' hw'⟩
  split
  · rename_i hwn
    rw [if_pos hwn] at h1
    rcases h1 with h1 | ⟨-, a1, w1, s1, H1, -, -, hf⟩
    · exact .inl (Oper.wp_imp hK (fun c a w ⟨_, _, _, _, hq⟩ => hq) (fun a w ⟨_, _, _, _, hq⟩ => hq) h1)
    · exact (hf : False).elim
  · rename_i hwn
    rw [if_neg hwn] at h1
    exact hK _ _ h1
variable {K : Value → Prop} {x y : Operand} {t t' ty : TypeId} {d : Option Nat} {pos : String} {af : Array Edge} {i : Nat}
theorem sy_val {v : Value} (hy : Yields P G n s Hs o v) (hk : K v) : SY P G n Hs o s K := ⟨v, hy, hk⟩
theorem sy_bin {op : BinOp} {vx vy : Value} (hx : ev s x = some vx) (hy : ev s y = some vy) (h : BB P op t x y vx vy K) : SY P G n Hs ⟨d, Op.binOp op t x y t', ty, pos, af, none⟩ s K := by
  obtain ⟨v, h1, h2⟩ := h
  exact ⟨v, yb rfl hx hy h1, h2⟩
theorem sy_load {vx : Value} (hx : ev s x = some vx) (h : LD P G Hs t vx K) : SY P G n Hs ⟨d, Op.load t x, ty, pos, af, none⟩ s K := by
  obtain ⟨v, h1, h2⟩ := h
  refine ⟨v, fun a w ha hw => ?_, h2⟩
  unfold execOp; simp only [ha.ev hx]; exact run_value (h1 w hw)
theorem ky_move (h : SY P G n Hs ⟨d, Op.move x, ty, pos, af, none⟩ s K) : SY P G n Hs ⟨d, Op.move x, ty, pos, af, none⟩ s K := h
theorem ky_bin {op : BinOp} (h : SY P G n Hs ⟨d, Op.binOp op t x y t', ty, pos, af, none⟩ s K) : SY P G n Hs ⟨d, Op.binOp op t x y t', ty, pos, af, none⟩ s K := h
theorem ky_load (h : SY P G n Hs ⟨d, Op.load t x, ty, pos, af, none⟩ s K) : SY P G n Hs ⟨d, Op.load t x, ty, pos, af, none⟩ s K := h
theorem ky_asgn (h : SY P G n Hs ⟨d, Op.assign x, ty, pos, af, none⟩ s K) : SY P G n Hs ⟨d, Op.assign x, ty, pos, af, none⟩ s K := h
theorem ky_field (h : SY P G n Hs ⟨d, Op.fieldAddr t x i, ty, pos, af, none⟩ s K) : SY P G n Hs ⟨d, Op.fieldAddr t x i, ty, pos, af, none⟩ s K := h
theorem ky_extr (h : SY P G n Hs ⟨d, Op.extract x i, ty, pos, af, none⟩ s K) : SY P G n Hs ⟨d, Op.extract x i, ty, pos, af, none⟩ s K := h
theorem ky_build {parts : Array (Nat × Operand)} (h : SY P G n Hs ⟨d, Op.build t parts, ty, pos, af, none⟩ s K) : SY P G n Hs ⟨d, Op.build t parts, ty, pos, af, none⟩ s K := h
theorem ky_conv (h : SY P G n Hs ⟨d, Op.convert t t' x, ty, pos, af, none⟩ s K) : SY P G n Hs ⟨d, Op.convert t t' x, ty, pos, af, none⟩ s K := h
theorem ky_index (h : SY P G n Hs ⟨d, Op.index t x y, ty, pos, af, none⟩ s K) : SY P G n Hs ⟨d, Op.index t x y, ty, pos, af, none⟩ s K := h
theorem ky_indexA (h : SY P G n Hs ⟨d, Op.indexAddr t x y, ty, pos, af, none⟩ s K) : SY P G n Hs ⟨d, Op.indexAddr t x y, ty, pos, af, none⟩ s K := h
theorem ky_nilc (h : SY P G n Hs ⟨d, Op.nilCheck x, ty, pos, af, none⟩ s K) : SY P G n Hs ⟨d, Op.nilCheck x, ty, pos, af, none⟩ s K := h
theorem ky_bi {b : Builtin} {xs : Array Operand} {ats : Array TypeId} (h : SY P G n Hs ⟨d, Op.call { callee := .builtin b, args := xs, argTypes := ats }, ty, pos, af, none⟩ s K) : SY P G n Hs ⟨d, Op.call { callee := .builtin b, args := xs, argTypes := ats }, ty, pos, af, none⟩ s K := h
theorem ky_slice {lo hi mx : Option Operand} (h : SY P G n Hs ⟨d, Op.slice t x lo hi mx, ty, pos, af, none⟩ s K) : SY P G n Hs ⟨d, Op.slice t x lo hi mx, ty, pos, af, none⟩ s K := h
theorem g_sot {k : Nat} (h : SOT P G n ops Q Hs fuel done s H k) : SOT P G n ops Q Hs fuel done s H k := h
theorem g_soa {k : Nat} (h : SOA P G n ops Q Hs fuel done s H k) : SOA P G n ops Q Hs fuel done s H k := h
end
end Go.Sx
namespace Go.Sx
open Go Go.RowKit Go.Fw
section
variable {P : Program} {G : Ctx} {n : Sz} {ops : Array Oper} {Q : Post} {s : Fm} {H : List Ent} {o : Oper} {rest : List Oper}
variable {K : Value → Prop} {x y : Operand} {t : TypeId}
theorem bb_enil {e sz bytes : Nat} [hT : SliceT P t e sz bytes] {a : Option Addr} {m c m' c' : Nat} (hk : K (.bool a.isNone)) : BB P .eql t x y (.slice a m c) (.slice none m' c') K := ⟨_, fun w => by
  have := Lib.run_eql_slice_nil (P := P) w t e a m c m' c' hT.here.1
  simpa [eqGuard] using this, hk⟩
/-- A result that lies in a block. -/
theorem res_agg {p b sz : Nat} {t t' : TypeId} {cs : List Value} {l : List ResultVar} {vs : List Value} (h : look s p = some (.pointer (some ⟨b, 0, none⟩))) [hm : HasBlk H b t' cs] [ha : Ag P t sz] (hl : cs.length = sz) (hr : Res s H P l vs) : Res s H P (.cell p t :: l) (.agg cs.toArray :: vs) := by
  obtain ⟨d, h1, h2, h3⟩ := ha.here
  exact .agg h hm.here h1 h2 (by rw [h3, hl]) hr
theorem e_scr {R : Value → List Ent → Prop} {rs : List ResultVar} {vs : List Value} {e : Exit} (H' : List Ent) (he : e = .normal ∨ e = .ret) (hr : Res s H P rs vs) (hH : ∀ w, Holds G H w → Holds G H' w) (h : R (resV vs) H') : AtQ (fpost G P rs R) e s H := at_fpost e he hr hH h
/-- The place of an element of an array that lies in a block. -/
theorem c_indexP {t len e sz : Nat} {x y : Operand} {b off : Nat} {k : IntKind} {i : Int} (ho : o.op = .indexAddr t x y) [h : ArrT P t len e sz] (hx : ev s x = some (.pointer (some ⟨b, off, none⟩))) (hy : ev s y = some (.int k i)) (h0 : 0 ≤ i) (h1 : i < (len : Int)) : Yields P G n s H o (.pointer (some ⟨b, off + i.toNat * sz, none⟩)) := fun a w ha _ => by
  obtain ⟨hu, hi⟩ := h.here
  unfold execOp; rw [ho]; simp only [ha.ev hx, ha.ev hy]
  refine run_value ?_
  cases hq : P.info? e with
  | none => simp [hq] at hi
  | some inf =>
    have hs : inf.size = sz := by simpa [hq] using hi
    simp only [Instr.indexAt, Instr.sureAddr, asIntOf, Sem.run_bind, Sem.run_pure, Result.andThen_ok, run_underlying hu]
    rw [if_pos ⟨h0, h1⟩]
    simp only [sizeOf, typeInfo, Sem.run_bind, Sem.run_pure, Result.andThen_ok]
    simp [hq, hs, program, Sem.run, Addr.add_mid]
end
end Go.Sx
namespace Go.Sx
open Go Go.RowKit Go.Fw
section
variable {P : Program} {G : Ctx} {n : Sz} {ops : Array Oper} {Q : Post} {s : Fm} {H : List Ent} {o : Oper} {rest : List Oper}
theorem run_buildSlice0 (w : World) (t e sz : Nat) (hu : P.underlying t = some (.slice e)) (hi : (P.info? e).map (·.size) = some sz) :
    (Instr.buildSlice t 0 #[]).run P w = .ok (.slice (some ⟨w.heap.size, 0, none⟩) 0 0) (w.alloc (.cells #[] e)) := by
  cases hq : P.info? e with
  | none => simp [hq] at hi
  | some ie =>
    have e0 : (Array.range 0).map (fun _ : Nat => (default : Value)) = #[] := by
      apply Array.eq_empty_of_size_eq_zero
      simp
    simp [Instr.buildSlice, run_underlying hu, sizeOf, typeInfo, hq, Instr.fill, newRow, e0]
theorem c_bsl0 {t e sz bytes d : Nat} (hg : o.guard = none) (ho : o.op = .buildSlice t 0 #[]) [hT : SliceT P t e sz bytes] (h1d : o.dst = some d) (h2d : Nat.blt d n.n = true)
    (h : ∀ b, SL P G n ops Q rest ((d, .slice (some ⟨b, 0, none⟩) 0 0) :: s) (.own e sz (some ⟨b, 0, none⟩) 0 0 [] :: H)) : SL P G n ops Q (o :: rest) s H := by
  have hd := okd (n := n) h1d h2d
  simp only [← updd h1d] at h
  refine sl_op (.inl hg) fun a w ha hw K hK => ?_
  unfold Oper.wp execOp
  simp only [ho, Sem.run_bind, Array.map_empty, run_buildSlice0 w t e sz hT.here.1 hT.size, Result.andThen_ok]
  have hw2 := hw.alloc e []
  have hw3 : Holds G (.own e sz (some ⟨w.heap.size, 0, none⟩) 0 0 [] :: H) (w.alloc (.cells #[] e)) := by
    refine ⟨hw2.below, hw2.base, fun x hx => ?_, List.pairwise_cons.2 ⟨fun y hy k hk => (List.pairwise_cons.1 hw2.apart).1 y hy k hk, (List.pairwise_cons.1 hw2.apart).2⟩⟩
    rcases List.mem_cons.1 hx with rfl | hx
    · have := hw2.ok _ List.mem_cons_self
      exact ⟨by simp, .inr ⟨w.heap.size, 0, #[], rfl, this.1, this.2, Nat.le_refl _, by unfold maxLen; omega, by simp, by simp⟩⟩
    · exact hw2.ok x (List.mem_cons_of_mem _ hx)
  exact hK _ _ (h _ _ _ (ha.put _ _ hd) hw3)
theorem g_atso {Hs : List Ent} {fuel : Nat} {done : List Nat} (h : AtQ (soQ P G n ops Q Hs fuel done) .normal s H) : AtQ (soQ P G n ops Q Hs fuel done) .normal s H := h
theorem sc_here {f : FuncId} {args : List Value} {R : Value → List Ent → Prop} (hc : Callee P f) (h : ∀ w, Holds G H w → SC P G f args H R) : SC P G f args H R := ⟨hc, fun w hw => (h w hw).2 w hw⟩
theorem sv_here {f : FuncId} {args : List Value} {v : Value} (hc : Callee P f) (h : ∀ w, Holds G H w → SV P G f args H v) : SV P G f args H v := sc_here hc h
theorem e_scc {R : Value → List Ent → Prop} {p b sz : Nat} {t t' : TypeId} {cs : List Value} {rs : List ResultVar} {vs : List Value} {e : Exit} (H' : List Ent) (he : e = .normal ∨ e = .ret) (hp : look s p = some (.pointer (some ⟨b, 0, none⟩))) [hm : HasBlk H b t' cs] [ha : Ag P t sz] (hl : cs.length = sz) (hr : res? s rs = some vs) (hH : ∀ w, Holds G H w → Holds G H' w) (h : R (resV (.agg cs.toArray :: vs)) H') : AtQ (fpost G P (.cell p t :: rs) R) e s H :=
  e_scr H' he (res_agg hp hl (res?_of hr)) hH h
/-- There is room for what is there. -/
class CapC (G : Ctx) (H : List Ent) (a : Option Addr) (m c : Nat) : Prop where
  here : ∀ w, Holds G H w → m ≤ c
instance (priority := low) capTail {a : Option Addr} {m c : Nat} {x : Ent} [h : CapC G H a m c] : CapC G (x :: H) a m c := ⟨fun w hw => h.here w hw.drop⟩
instance capOwn {e sz m c : Nat} {a : Option Addr} {xs : List Value} : CapC G (.own e sz a m c xs :: H) a m c := ⟨fun w hw => by
  have ho : w.ownsRow G.B e sz (.slice a m c) m xs := hw.ok _ List.mem_cons_self
  rcases ho.2 with ⟨hv, h0⟩ | ⟨g, cap, cur, hv, -, -, hn, -⟩
  · omega
  · have : c = cap := by injection hv
    omega⟩
theorem At.none_nil {w : World} {xs : List Value} (h : At w none xs) : xs = [] := by
  rcases h with h | ⟨b, o, e, -⟩
  · exact h
  · cases e
end
end Go.Sx
namespace Go.Sx
open Go Go.RowKit Go.Fw
/-- Equal to itself, at depth d. -/
def EqSelf (P : Program) (d : Nat) (t : TypeId) (v : Value) : Prop := ∀ w, (Op.equalIn d t v v).run P w = .ok true w
section
variable {P : Program} {d : Nat} {t e : TypeId}
theorem eqself_int {k : IntKind} (z : Int) [h : IntT P t k] : EqSelf P (d + 1) t (.int k z) := fun w => by rw [run_equalIn_int w d t k k z z h.here]; simp
theorem eqself_str (s : ByteArray) [h : StrT P t] : EqSelf P (d + 1) t (.string s) := fun w => by rw [run_equalIn_string w d t s s h.here]; simp
theorem part_one {cs : List Value} {off : Nat} {v : Value} [h : Sc P t] (hv : cs[off]? = some v) (w : World) : (part t cs.toArray off).run P w = .ok v w := by
  obtain ⟨d, hd, hrow, -⟩ := h.here
  simp only [part, Sem.run_bind, run_isAgg hd, hrow, Result.andThen_ok, Bool.false_eq_true, if_false]
  simp [hv, Sem.run]
variable {K : Value → Prop} {x y : Operand}
end
end Go.Sx
namespace Go.Sx
open Go Go.RowKit Go.Fw
section
variable {P : Program} {G : Ctx} {n : Sz} {ops : Array Oper} {Q : Post} {s : Fm} {H : List Ent} {o : Oper} {rest : List Oper}
/-- A piece of a row that is held, by its place. -/
theorem y_sliceAt {t e sz bytes : Nat} {x : Operand} {lo hi : Option Operand} {b len c : Nat} {l h : Int} (ho : o.op = .slice t x lo hi none) [hT : SliceT P t e sz bytes] (hx : ev s x = some (.slice (some ⟨b, 0, none⟩) len c)) (hl : bnd s 0 lo = some l) (hh : bnd s len hi = some h) (h0 : 0 ≤ l) (h1 : l ≤ h) (h2 : h ≤ c) (hlt : l < c) : Yields P G n s H o (.slice (some ⟨b, l.toNat * sz, none⟩) (h.toNat - l.toNat) (c - l.toNat)) := fun act w ha _ => by
  obtain ⟨hu, hsz, -, -⟩ := hT.here
  have hS := hT.size
  unfold execOp; rw [ho]; simp only [ha.ev hx]
  refine run_value ?_
  have hb := run_bounds (P := P) (isSl := true) (w := w) (cap := c) ha hl hh h0 h1 h2
  cases hq : P.info? e with
  | none => simp [hq] at hS
  | some inf =>
    have hs : inf.size = sz := by simpa [hq] using hS
    have hz : (sizeOf e).run P w = .ok sz w := by simp [sizeOf, typeInfo, program, Sem.run, hq, hs]
    have hne : ¬ c = l.toNat := by omega
    simp only [Instr.sliceAt, Sem.run_bind, run_underlying hu, Result.andThen_ok, Instr.slice, Option.map_none]
    simp [hb, hz, Sem.run, hne, Addr.add_mid]
/-- The beginning of a row that is held. -/
theorem y_slice0 {t e sz bytes : Nat} {x : Operand} {hi : Option Operand} {b len c : Nat} {h : Int} (ho : o.op = .slice t x none hi none) [hT : SliceT P t e sz bytes] (hx : ev s x = some (.slice (some ⟨b, 0, none⟩) len c)) (hh : bnd s len hi = some h) (h1 : 0 ≤ h) (h2 : h ≤ c) : Yields P G n s H o (.slice (some ⟨b, 0, none⟩) h.toNat c) := fun act w ha _ => by
  obtain ⟨hu, hsz, -, -⟩ := hT.here
  have hS := hT.size
  unfold execOp; rw [ho]; simp only [ha.ev hx]
  refine run_value ?_
  have hb := run_bounds (P := P) (isSl := true) (w := w) (cap := c) (lo := none) ha rfl hh (by omega : (0 : Int) ≤ ((0 : Nat) : Int)) (by omega) h2
  cases hq : P.info? e with
  | none => simp [hq] at hS
  | some inf =>
    have hs : inf.size = sz := by simpa [hq] using hS
    have hz : (sizeOf e).run P w = .ok sz w := by simp [sizeOf, typeInfo, program, Sem.run, hq, hs]
    simp only [Option.map_none] at hb
    simp only [Instr.sliceAt, Sem.run_bind, run_underlying hu, Result.andThen_ok, Instr.slice, Option.map_none]
    simp [hb, hz, Sem.run, Addr.add_mid]
variable {K : Value → Prop} {x y : Operand} {t : TypeId}
/-- The lower half of a small number is itself. -/
theorem u64_and32 (p : Int) (h0 : 0 ≤ p) (h1 : p < 4294967296) : bits .and .u64 p 4294967295 = p := by
  obtain ⟨m, rfl⟩ := Int.eq_ofNat_of_zero_le h0
  have hm : (BitVec.ofInt 64 (m : Int)).toNat = m := ofInt_u64 m (by omega)
  have hn : (BitVec.ofInt 64 ((4294967295 : Nat) : Int)).toNat = 4294967295 := ofInt_u64 4294967295 (by omega)
  unfold bits
  show IntKind.u64.wrap (((BitVec.ofInt 64 (m : Int)) &&& (BitVec.ofInt 64 ((4294967295 : Nat) : Int))).toNat : Int) = _
  rw [BitVec.toNat_and, hm, hn]
  have e : m &&& 4294967295 = m := by
    rw [show (4294967295 : Nat) = 2 ^ 32 - 1 from rfl, Nat.and_two_pow_sub_one_eq_mod]
    exact Nat.mod_eq_of_lt (by omega)
  rw [e]
  exact IntWalk.u64_in _ (by omega)
theorem st_and32 {p : Int} (h0 : 0 ≤ p) (h1 : p < 4294967296) : still P (do eqGuard .and t x y (.int .u64 p) (.int .u64 4294967295); binOp .and t (.int .u64 p) (.int .u64 4294967295)) = some (.int .u64 p) := by
  have h := u64_and32 p h0 h1
  rw [← h]
  conv => rhs; rw [h]
  conv => lhs; rw [h]
  show some (Value.int .u64 (bits .and .u64 p 4294967295)) = _
  rw [h]
theorem bb_and32 {p : Int} (h0 : 0 ≤ p) (h1 : p < 4294967296) (hk : K (.int .u64 p)) : BB P .and t x y (.int .u64 p) (.int .u64 4294967295) K := bb_of (st_and32 h0 h1) hk
end
end Go.Sx
namespace Go.Sx
open Go Go.RowKit Go.Fw
section
variable {P : Program} {G : Ctx} {n : Sz} {ops : Array Oper} {Q : Post} {s : Fm} {H : List Ent} {o : Oper} {rest : List Oper}
/-- These cells, from there on, written over. -/
def over (cs : List Value) (off : Nat) (vs : List Value) : List Value := cs.take off ++ vs ++ cs.drop (off + vs.length)
theorem over_len {cs vs : List Value} {off : Nat} (h : off + vs.length ≤ cs.length) : (over cs off vs).length = cs.length := by
  simp [over]; omega
theorem run_store_part {w : World} {t ty g off : Nat} {cs vs : List Value} (hg : w.heap[g]? = some (.cells cs.toArray t (0, 0))) (hi : (P.info? ty).map (·.size) = some vs.length) (hl : off + vs.length ≤ cs.length) (h1 : ∀ v ∈ vs, v.oneCell' = true) :
    (Instr.storeAt ty (.pointer (some ⟨g, off, none⟩)) (.agg vs.toArray)).run P w = .ok () (w.setRow g (over cs off vs).toArray) := by
  have hst := run_storeCells_at P g off t vs 0 cs.toArray w hg (by simpa using hl) h1
  cases hq : P.info? ty with
  | none => simp [hq] at hi
  | some i =>
    have hs : vs.length = i.size := by simp [hq] at hi; omega
    simp only [Nat.add_zero] at hst
    simp [Instr.storeAt, Instr.sureAddr, storeVar, sizeOf, typeInfo, hq, Value.cells, hs, hst, over]
theorem all_one {vs : List Value} (h : vs.all (·.oneCell') = true) : ∀ v ∈ vs, v.oneCell' = true := fun v hv => List.all_eq_true.1 h v hv
theorem sl_store_part {t t' : TypeId} {x y : Operand} {b off : Nat} {cs vs : List Value} {H' : List Ent} (hg : o.guard = none) (ho : o.op = .store t x y) (hx : ev s x = some (.pointer (some ⟨b, off, none⟩))) (hy : ev s y = some (.agg vs.toArray)) (hp : Pick (.blk b t' cs) H H') (h1 : vs.all (·.oneCell') = true)
    (hi : (P.info? t).map (·.size) = some vs.length) (hl : off + vs.length ≤ cs.length) (hd : o.dst = none) (h : SL P G n ops Q rest s (.blk b t' (over cs off vs) :: H')) : SL P G n ops Q (o :: rest) s H :=
  sl_op (.inl hg) fun a w ha hw K hK => by
    have hw := hw.pick hp
    have hrow := (hw.ok _ List.mem_cons_self).2
    unfold Oper.wp execOp
    simp only [ho, ha.ev hx, ha.ev hy, Sem.run_bind, run_store_part hrow hi hl (all_one h1), Result.andThen_ok]
    have hw' : Holds G (.blk b t' (over cs off vs) :: H') (w.setRow b (over cs off vs).toArray) := hw.set (setRow_heap w b _ _ t' (0, 0) hrow) (fun k hk => setRow_other w b k _ hk) (by simp [World.setRow]) rfl rfl rfl
    exact hK _ _ (h _ _ (by rw [hd]; exact ha) hw')
/-- Several cells, into a part of a block. -/
theorem c_storep {t t' sz : Nat} {x y : Operand} {b off : Nat} {cs vs : List Value} {H' : List Ent} (hg : o.guard = none) (ho : o.op = .store t x y) [h : Ag P t sz] (hx : ev s x = some (.pointer (some ⟨b, off, none⟩))) (hy : ev s y = some (.agg vs.toArray)) [hp : PickBlk H b t' cs H'] (h1 : vs.all (·.oneCell') = true)
    (hv : vs.length = sz) (hl : off + sz ≤ cs.length) (hd : o.dst = none) (hk : SL P G n ops Q rest s (.blk b t' (over cs off vs) :: H')) : SL P G n ops Q (o :: rest) s H := by
  obtain ⟨d, -, -, h3⟩ := h.here
  subst hv
  exact sl_store_part hg ho hx hy hp.here h1 h3 hl hd hk
/-- Several cells, into a row that the call holds. -/
theorem c_storees {t e sz sz2 len c k : Nat} {x y : Operand} {a : Option Addr} {xs vs : List Value} {H' : List Ent} (hg : o.guard = none) (ho : o.op = .store t x y) [h : Ag P t sz2] (hx : ev s x = some (elemPtr a k)) (hy : ev s y = some (.agg vs.toArray)) [hp : PickOwn H a e sz len c xs H'] (h1 : vs.all (·.oneCell') = true)
    (hv : vs.length = sz2) (h0 : 0 < sz2) (hl : k + sz2 ≤ xs.length) (hd : o.dst = none) (hk : SL P G n ops Q rest s (.own e sz a len c (over xs k vs) :: H')) : SL P G n ops Q (o :: rest) s H := by
  obtain ⟨d, -, -, h3⟩ := h.here
  subst hv
  refine sl_op (.inl hg) fun act w ha hw K hK => ?_
  have hw := hw.pick hp.here
  have hown : w.ownsRow G.B e sz (.slice a len c) len xs := hw.ok _ List.mem_cons_self
  obtain ⟨hlen, ⟨hv, h0'⟩ | ⟨g, cap, cur, hv, hB, hh, hn, hm, hs, ht⟩⟩ := id hown
  · subst h0'; rw [hlen, Nat.zero_mul] at hl; omega
  · obtain ⟨rfl, rfl⟩ : a = some ⟨g, 0, none⟩ ∧ c = cap := by simpa [Value.slice.injEq] using hv
    have hcl : k + vs.length ≤ cur.toList.length := by
      have e : xs.length ≤ cur.toList.length := by rw [← ht, List.length_take]; exact Nat.min_le_right _ _
      omega
    have hrun := run_store_part (P := P) (w := w) (t := e) (ty := t) (g := g) (off := k) (cs := cur.toList) (by simpa using hh) h3 hcl (all_one h1)
    unfold Oper.wp execOp
    simp only [ho, ha.ev hx, ha.ev hy, elemPtr, Option.map_some, Addr.add_mid, Nat.zero_add, Sem.run_bind, hrun, Result.andThen_ok]
    obtain ⟨hap, hapH⟩ := List.pairwise_cons.1 hw.apart
    have e2 : (over cur.toList k vs).take (len * sz) = over xs k vs := by
      have h4 : k + vs.length ≤ len * sz := by rw [← hlen]; exact hl
      unfold over
      rw [← ht, List.take_take, Nat.min_eq_left (by omega), List.drop_take]
      have h3 : (cur.toList.take k).length = k := by rw [List.length_take]; omega
      rw [List.take_append, List.take_of_length_le (by rw [List.length_append, h3]; omega)]
      congr 2
      rw [List.length_append, h3]
    have hw' : Holds G (.own e sz (some ⟨g, 0, none⟩) len c (over xs k vs) :: H') (w.setRow g (over cur.toList k vs).toArray) := by
      refine ⟨below_setRow hw.below hB _, by simpa using hw.base, fun z hz => ?_, List.pairwise_cons.2 ⟨fun y hy k hk => hap y hy k hk, hapH⟩⟩
      rcases List.mem_cons.1 hz with rfl | hz
      · refine ⟨?_, .inr ⟨g, c, (over cur.toList k vs).toArray, rfl, hB, setRow_heap w g _ _ e (0, 0) hh, hn, hm, ?_, by rw [List.toList_toArray]; exact e2⟩⟩
        · rw [over_len hl]; exact hlen
        · rw [List.size_toArray, over_len hcl, Array.length_toList]; exact hs
      · exact Ent.ok_of (hw.ok z (List.mem_cons_of_mem _ hz)) fun j hj => setRow_other w g j _ (fun e => hap z hz g rfl (e ▸ hj))
    exact hK _ _ (hk _ _ (by rw [hd]; exact ha) hw')
/-- A row that is made, full of noughts, its elements of several cells. -/
theorem c_makes {t e sz bytes d : Nat} {x y : Operand} {k k' : IntKind} {m : Int} {zs : List Value} (hg : o.guard = none) (ho : o.op = .makeSlice t x y) [hT : SliceT P t e sz bytes] [hz : ZeroT P e zs] (hx : ev s x = some (.int k m)) (hy : ev s y = some (.int k' m)) (h0 : 0 ≤ m) (h1 : (bytes : Int) * m ≤ 140737488355328) (hb : m ≤ 140737488355328) (h1d : o.dst = some d) (h2d : Nat.blt d n.n = true)
    (hk : ∀ b, SL P G n ops Q rest ((d, .slice (some ⟨b, 0, none⟩) m.toNat m.toNat) :: s) (.own e sz (some ⟨b, 0, none⟩) m.toNat m.toNat (madeCells zs.toArray (m.toNat * sz)).toList :: H)) : SL P G n ops Q (o :: rest) s H := by
  obtain ⟨hu, -, hby, z', hzi, hzs⟩ := hT.here
  obtain ⟨u, hu1, hu2⟩ := hz.here
  obtain ⟨i, hi, hiz⟩ := zero_info hu1
  have hib : i.bytes = bytes ∧ i.size = sz := by
    rw [hi] at hzi
    simp only [Option.map_some, Option.some.injEq, Prod.mk.injEq] at hzi
    exact ⟨hzi.2.2, hzi.2.1⟩
  refine sl_op (.inl hg) fun act w ha hw K hK => ?_
  have hrun := run_make (P := P) w t e i u hu hi hiz k k' m m h0 (Int.le_refl _) (by rw [hib.1]; omega) (by omega)
  unfold Oper.wp execOp
  simp only [ho, ha.ev hx, ha.ev hy, Sem.run_bind, hrun, Result.andThen_ok]
  rw [hib.2, hu2.cells]
  have hw2 := hw.alloc e (madeCells zs.toArray (m.toNat * sz)).toList
  have hw3 : Holds G (.own e sz (some ⟨w.heap.size, 0, none⟩) m.toNat m.toNat (madeCells zs.toArray (m.toNat * sz)).toList :: H) (w.alloc (.cells (madeCells zs.toArray (m.toNat * sz)) e)) := by
    refine ⟨hw2.below, hw2.base, fun x hx => ?_, List.pairwise_cons.2 ⟨fun y hy k hk => (List.pairwise_cons.1 hw2.apart).1 y hy k hk, (List.pairwise_cons.1 hw2.apart).2⟩⟩
    rcases List.mem_cons.1 hx with rfl | hx
    · have := hw2.ok _ List.mem_cons_self
      refine ⟨by simp [madeCells], .inr ⟨w.heap.size, m.toNat, _, rfl, this.1, this.2, Nat.le_refl _, by unfold maxLen; omega, by simp [madeCells], ?_⟩⟩
      rw [List.toList_toArray, List.take_of_length_le (by simp [madeCells])]
    · exact hw2.ok x (List.mem_cons_of_mem _ hx)
  have hp := hk w.heap.size
  rw [← updd h1d] at hp
  exact hK _ _ (hp _ _ (ha.put _ _ (okd h1d h2d)) hw3)
end
end Go.Sx
namespace Go.Sx
open Go Go.RowKit Go.Fw
/-- A power of two. -/
def pw (m : Nat) : Int := 2 ^ m
theorem pw_eq (m : Nat) : pw m = 2 ^ m := rfl
theorem pw_pos (m : Nat) : 0 < pw m := by rw [pw_eq]; exact Int.pow_pos (by omega)
theorem pw_63 {m : Nat} (h : m ≤ 63) : pw m ≤ 9223372036854775808 := by
  rw [pw_eq]
  have : (2 : Nat) ^ m ≤ 2 ^ 63 := Nat.pow_le_pow_right (by omega) h
  have h2 : ((2 ^ m : Nat) : Int) ≤ ((2 ^ 63 : Nat) : Int) := Int.ofNat_le.2 this
  have h3 : ((2 ^ m : Nat) : Int) = (2 : Int) ^ m := by simp
  have h4 : ((2 ^ 63 : Nat) : Int) = 9223372036854775808 := by decide
  omega
attribute [irreducible] pw
theorem pdiv_bd {p : Int} (m : Nat) (h0 : 0 ≤ p) : 0 ≤ p / pw m ∧ p / pw m ≤ p := ⟨Int.ediv_nonneg h0 (Int.le_of_lt (pw_pos m)), Int.ediv_le_self _ h0⟩
section
variable {P : Program} {K : Value → Prop} {x y : Operand} {t : TypeId}
theorem bb_shrN {k k' : IntKind} {p q : Int} (h0 : 0 ≤ q) (h1 : q.toNat ≤ k.bits) (hk : K (.int k (p / pw q.toNat))) : BB P .shr t x y (.int k p) (.int k' q) K := by
  obtain ⟨m, rfl⟩ := Int.eq_ofNat_of_zero_le h0
  rw [Int.toNat_natCast] at h1 hk
  rw [pw_eq] at hk
  exact bb_of (st_shr (Nat.ble_eq_true_of_le h1)) hk
theorem st_shl1 {k' : IntKind} {m : Nat} (hm : m ≤ 63) : still P (do eqGuard .shl t x y (.int .u64 1) (.int k' m); binOp .shl t (.int .u64 1) (.int k' m)) = some (.int .u64 (pw m)) := by
  have hp := pw_63 hm
  have hq := pw_pos m
  have e : min ((m : Int).toNat) 64 = m := by rw [Int.toNat_natCast]; exact Nat.min_eq_left (by omega)
  have e3 : ¬ ((m : Int) < 0) := by omega
  have e4 : IntKind.u64.wrap ((1 : Int) * 2 ^ m) = pw m := by
    rw [Int.one_mul, ← pw_eq]
    exact IntWalk.u64_in _ (by omega)
  simp only [eqGuard, binOp, Op.shift, e3, if_false, IntKind.bits, e, e4]
  simp
  rfl
theorem bb_shl1 {k' : IntKind} {q : Int} (h0 : 0 ≤ q) (h1 : q ≤ 63) (hk : K (.int .u64 (pw q.toNat))) : BB P .shl t x y (.int .u64 1) (.int k' q) K := by
  obtain ⟨m, rfl⟩ := Int.eq_ofNat_of_zero_le h0
  rw [Int.toNat_natCast] at hk
  exact bb_of (st_shl1 (by omega)) hk
/-- The last bit of a word. -/
theorem u64_and1 (p : Int) (h0 : 0 ≤ p) (h1 : p < 18446744073709551616) : bits .and .u64 p 1 = p % 2 := by
  obtain ⟨m, rfl⟩ := Int.eq_ofNat_of_zero_le h0
  have hm : (BitVec.ofInt 64 (m : Int)).toNat = m := ofInt_u64 m (by omega)
  have hn : (BitVec.ofInt 64 ((1 : Nat) : Int)).toNat = 1 := ofInt_u64 1 (by omega)
  unfold bits
  show IntKind.u64.wrap (((BitVec.ofInt 64 (m : Int)) &&& (BitVec.ofInt 64 ((1 : Nat) : Int))).toNat : Int) = _
  rw [BitVec.toNat_and, hm, hn]
  have e : m &&& 1 = m % 2 := Nat.and_one_is_mod m
  rw [e]
  have e2 : (((m % 2 : Nat)) : Int) = (m : Int) % 2 := by omega
  rw [e2]
  exact IntWalk.u64_in _ (by omega)
theorem bb_and1 {p : Int} (h0 : 0 ≤ p) (h1 : p < 18446744073709551616) (hk : K (.int .u64 (p % 2))) : BB P .and t x y (.int .u64 p) (.int .u64 1) K := by
  refine bb_of ?_ hk
  rw [← u64_and1 p h0 h1]
  rfl
/-- Two values: are they equal? -/
def EqVal (P : Program) (d : Nat) (t : TypeId) (u v : Value) (b : Bool) : Prop := ∀ w, (Op.equalIn d t u v).run P w = .ok b w
theorem eqval_int {d : Nat} {k : IntKind} (a b : Int) [h : IntT P t k] : EqVal P (d + 1) t (.int k a) (.int k b) (a == b) := fun w => by rw [run_equalIn_int w d t k k a b h.here]
theorem eqval_str {d : Nat} (a b : ByteArray) [h : StrT P t] : EqVal P (d + 1) t (.string a) (.string b) (a.toList == b.toList) := fun w => by rw [run_equalIn_string w d t a b h.here]
/-- Field by field. -/
inductive EqParts (P : Program) (d : Nat) (cs cs' : List Value) : List Field → Bool → Prop
  | nil : EqParts P d cs cs' [] true
  | eq {f : Field} {fs : List Field} {u v : Value} {b : Bool} (hn : f.name ≠ "_") (h1 : ∀ w, (part f.type cs.toArray f.offset).run P w = .ok u w) (h2 : ∀ w, (part f.type cs'.toArray f.offset).run P w = .ok v w) (he : EqVal P d f.type u v true) (hr : EqParts P d cs cs' fs b) : EqParts P d cs cs' (f :: fs) b
  | ne {f : Field} {fs : List Field} {u v : Value} (hn : f.name ≠ "_") (h1 : ∀ w, (part f.type cs.toArray f.offset).run P w = .ok u w) (h2 : ∀ w, (part f.type cs'.toArray f.offset).run P w = .ok v w) (he : EqVal P d f.type u v false) : EqParts P d cs cs' (f :: fs) false
theorem eqParts_run {d : Nat} {cs cs' : List Value} {fs : List Field} {b : Bool} (h : EqParts P d cs cs' fs b) (w : World) : (Op.eqFields d cs.toArray cs'.toArray fs).run P w = .ok b w := by
  induction h with
  | nil => simp [Op.eqFields]
  | eq hn h1 h2 he _ ih => simp only [Op.eqFields, ne_eq, hn, not_false_eq_true, if_true, Sem.run_bind, h1, h2, Result.andThen_ok, he w, Bool.not_true, Bool.false_eq_true, if_false]; exact ih
  | ne hn h1 h2 he => simp only [Op.eqFields, ne_eq, hn, not_false_eq_true, if_true, Sem.run_bind, h1, h2, Result.andThen_ok, he w, Bool.not_false, Sem.run_pure]
theorem eqval_struct {d : Nat} {cs cs' : List Value} {b : Bool} (ht : P.underlying t = some (.struct (P.fieldsOf t))) (hp : P.stoodInHeld t = false) (h : EqParts P d cs cs' (P.fieldsOf t).toList b) : EqVal P (d + 1) t (.agg cs.toArray) (.agg cs'.toArray) b := fun w => by
  rw [run_equalIn_struct w d t _ _ ht hp]
  exact eqParts_run h w
theorem bb_eqv {cs cs' : Array Value} {b : Bool} (hs : EqVal P 10000 t (.agg cs) (.agg cs') b) (hm : P.eqGuardType P.depth t = false) (hk : K (.bool b)) : BB P .eql t x y (.agg cs) (.agg cs') K := ⟨_, fun w => by
  have h1 := run_eqGuard_agg w .eql t x y cs cs' hm
  have h2 := run_eql_struct w (P := P) t cs cs'
  rw [hs w] at h2
  simp only [Sem.run_bind, h1, Result.andThen_ok, h2], hk⟩
end
end Go.Sx
namespace Go.Sx
open Go Go.RowKit Go.Fw
section
variable {P : Program} {G : Ctx} {n : Sz} {ops : Array Oper} {Q : Post} {s : Fm} {H : List Ent} {o : Oper} {rest : List Oper}
theorem run_calld {f : FuncId} {x : Operand} {first captured : List Value} {xs : Array Operand} {ats : Array TypeId} {vs : List Value} {a : Act} {w : World} (ho : o.op = .call { callee := .value x, args := xs, argTypes := ats }) (hx : ev s x = some (.func (.func f) first.toArray captured.toArray)) (he : Evs s xs.toList vs) (hc : Callee P f) (ha : Fr n s a) : (execOp a.eval o).run P w = .ok (.enter f (first ++ vs ++ captured).toArray) w := by
  have e1 : xs.map a.eval = vs.toArray := by
    rw [← he.map ha, ← List.map_toArray, Array.toArray_toList]
  have e0 := ha.ev hx
  have e2 : execOp a.eval o = (do let d ← Deferred.ofValue (a.eval x) (xs.map a.eval); invoke d.target d.args) := by
    cases o; simp only at ho; subst ho; rfl
  rw [e2, e0, e1]
  have := hc (first ++ vs ++ captured).toArray w
  simp only [Deferred.ofValue, invoke, Sem.run_bind, Sem.run_pure, Result.andThen_ok]
  simpa using this
/-- A call of a function value. -/
theorem c_calld {f d : Nat} {x : Operand} {first captured : List Value} {xs : Array Operand} {ats : Array TypeId} {vs : List Value} {R : Value → List Ent → Prop} (hg : o.guard = none) (ho : o.op = .call { callee := .value x, args := xs, argTypes := ats }) (hx : ev s x = some (.func (.func f) first.toArray captured.toArray)) (he : evs s xs.toList = some vs) (hc : SC P G f (first ++ vs ++ captured) H R) (h1d : o.dst = some d) (h2d : Nat.blt d n.n = true)
    (h : ∀ v H', R v H' → SL P G n ops Q rest ((d, v) :: s) H') : SL P G n ops Q (o :: rest) s H := by
  have hd := okd (n := n) h1d h2d
  simp only [← updd h1d] at h
  refine sl_op (.inl hg) fun a w ha hw K hK => ?_
  unfold Oper.wp
  rw [run_calld ho hx (evs_of he) hc.1 ha]
  exact (hc.2 w hw).mono fun e w' ⟨v, H', he, hw', q⟩ => by subst he; exact hK _ _ (h v H' q _ _ (ha.put _ _ hd) hw')
theorem c_calldv {f d : Nat} {x : Operand} {first captured : List Value} {xs : Array Operand} {ats : Array TypeId} {vs : List Value} {v : Value} (hg : o.guard = none) (ho : o.op = .call { callee := .value x, args := xs, argTypes := ats }) (hx : ev s x = some (.func (.func f) first.toArray captured.toArray)) (he : evs s xs.toList = some vs) (hc : SV P G f (first ++ vs ++ captured) H v) (h1d : o.dst = some d) (h2d : Nat.blt d n.n = true)
    (h : SL P G n ops Q rest ((d, v) :: s) H) : SL P G n ops Q (o :: rest) s H := c_calld hg ho hx he hc h1d h2d fun _ _ ⟨e1, e2⟩ => by subst e1; subst e2; exact h
/-- The larger of two, of three. -/
theorem c_max2 {x y : Operand} {ats : Array TypeId} {k k' : IntKind} {p q : Int} (ho : o.op = .call { callee := .builtin .max, args := #[x, y], argTypes := ats }) (hx : ev s x = some (.int k p)) (hy : ev s y = some (.int k' q)) : Yields P G n s H o (.int k (max p q)) := fun a w ha _ => by
  have e : max p q = if q > p then q else p := by split <;> omega
  unfold execOp; rw [ho, e]
  simp only [resolve, invoke, Sem.run_bind, Sem.run_pure, Result.andThen_ok, builtin, List.map_toArray, List.map_cons, List.map_nil, ha.ev hx, ha.ev hy, run_max_int2]
variable {K : Value → Prop} {x y : Operand} {t : TypeId}
end
end Go.Sx
namespace Go.Sx
open Go Go.RowKit Go.Fw
section
variable {P : Program} {G : Ctx} {n : Sz} {ops : Array Oper} {Q : Post} {s : Fm} {H : List Ent} {o : Oper} {rest : List Oper}
theorem sc_pick {f : FuncId} {args : List Value} {H' : List Ent} {e : Ent} {R : Value → List Ent → Prop} (hp : Pick e H H') (h : SC P G f args (e :: H') R) : SC P G f args H R := ⟨h.1, fun w hw => h.2 w (hw.pick hp)⟩
theorem sw_here {code : Code} (h : ∀ w, Holds G H w → SW P G n code Q s H) : SW P G n code Q s H := fun a w ha hw => h w hw a w ha hw
/-- Held otherwise. -/
theorem sw_held {code : Code} (H' : List Ent) (hh : ∀ w, Holds G H w → Holds G H' w) (h : SW P G n code Q s H') : SW P G n code Q s H := fun a w ha hw => h a w ha (hh w hw)
end
end Go.Sx
namespace Go.Sx
open Go Go.RowKit Go.Fw
section
variable {P : Program} {G : Ctx} {n : Sz} {ops : Array Oper} {Q : Post} {s : Fm} {H : List Ent} {o : Oper} {rest : List Oper}
/-- A field's place in an element of a row. -/
theorem c_fieldE {t i fo k : Nat} {x : Operand} {a : Option Addr} {xs : List Value} (ho : o.op = .fieldAddr t x i) [h : FieldAt P t i fo] (hx : ev s x = some (elemPtr a k)) [hr : RdC G H a xs] (hk : k < xs.length) : Yields P G n s H o (elemPtr a (k + fo)) := fun act w ha hw => by
  obtain ⟨b, off, rfl, -⟩ := At.someAt (hr.here w hw) (by omega)
  have e1 : elemPtr (some ⟨b, off, none⟩) k = .pointer (some ⟨b, off + k, none⟩) := by simp only [elemPtr, Option.map_some, Addr.add_mid]
  have e2 : elemPtr (some ⟨b, off, none⟩) (k + fo) = .pointer (some ⟨b, off + k + fo, none⟩) := by simp only [elemPtr, Option.map_some, Addr.add_mid, Nat.add_assoc]
  rw [e1] at hx
  rw [e2]
  exact c_field (P := P) (G := G) (H := H) ho hx act w ha hw
/-- An element of several cells, or a part of one, is loaded. -/
theorem ld_elems {t sz k : Nat} {K : Value → Prop} {a : Option Addr} {xs cs : List Value} [h : Ag P t sz] [hr : RdC G H a xs] (hn : take? (xs.drop k) sz = some cs) (hz : Nat.blt 0 sz = true) (hk : K (.agg cs.toArray)) : LD P G H t (elemPtr a k) K := by
  obtain ⟨d, h1, h2, h3⟩ := h.here
  obtain ⟨e1, e2⟩ := take?_eq hn
  rw [List.length_drop] at e2
  have hz' : 0 < sz := by simpa [Nat.blt_eq] using hz
  refine ⟨_, fun w hw => ?_, hk⟩
  obtain ⟨b, off, rfl, hc⟩ := At.someAt (hr.here w hw) (by omega)
  simp only [elemPtr, Option.map_some, Addr.add_mid]
  refine run_load_cells h1 h2 (cs := cs) (by rw [h3, ← e1, List.length_take, List.length_drop, Nat.min_eq_left (by omega)]) fun j v hj => ?_
  rw [← e1] at hj
  have hlt : j < sz := by
    have := (List.getElem?_eq_some_iff.1 hj).1
    rw [List.length_take] at this; omega
  rw [List.getElem?_take, if_pos hlt, List.getElem?_drop] at hj
  rw [Nat.add_assoc]
  exact (hc (k + j) (List.getElem?_eq_some_iff.1 hj).1).trans hj
/-- A function value is made. -/
theorem y_mkfn {f : FuncId} {first captured : Array Operand} {v1 v2 : List Value} (ho : o.op = .makeFunc (.func f) first captured) (h1 : evs s first.toList = some v1) (h2 : evs s captured.toList = some v2) : Yields P G n s H o (.func (.func f) v1.toArray v2.toArray) := fun a w ha _ => by
  have e1 : first.map a.eval = v1.toArray := by rw [← (evs_of h1).map ha, ← List.map_toArray, Array.toArray_toList]
  have e2 : captured.map a.eval = v2.toArray := by rw [← (evs_of h2).map ha, ← List.map_toArray, Array.toArray_toList]
  unfold execOp; rw [ho]
  simp only [e1, e2, Instr.makeFunc]
  exact run_value rfl
theorem s_mkfn {f : FuncId} {first captured : Array Operand} {d : Nat} {v : Value} {ty : TypeId} {pos : String} {af : Array Edge} (hy : Yields P G n s H ⟨some d, .makeFunc (.func f) first captured, ty, pos, af, none⟩ v) (h2 : Nat.blt d n.n = true) (h : SL P G n ops Q rest ((d, v) :: s) H) : SL P G n ops Q (⟨some d, .makeFunc (.func f) first captured, ty, pos, af, none⟩ :: rest) s H := sl_val rfl hy rfl h2 h
end
end Go.Sx
namespace Go.Sx
open Go Go.RowKit Go.Fw
theorem at_off {w : World} {b : Nat} {xs : List Value} (h : At w (some ⟨b, 0, none⟩) xs) (off : Nat) (ho : off < xs.length) : At w (some ⟨b, off, none⟩) (xs.drop off) := by
  rcases h with h | ⟨b', o, ha, hb, hc⟩
  · subst h; simp at ho
  · obtain ⟨rfl, rfl⟩ : b = b' ∧ o = 0 := by
      simp only [Option.some.injEq, Addr.mk.injEq, and_true] at ha
      exact ⟨ha.1, ha.2.symm⟩
    refine .inr ⟨b, off, rfl, hb, fun i hi => ?_⟩
    rw [List.length_drop] at hi
    have := hc (off + i) (by omega)
    rw [Nat.zero_add] at this
    rw [this, List.getElem?_drop]
theorem at_pre {w : World} {a : Option Addr} {xs ys : List Value} (h : At w a (xs ++ ys)) : At w a xs := by
  rcases h with h | ⟨b, o, ha, hb, hc⟩
  · exact .inl (List.append_eq_nil_iff.1 h).1
  · refine .inr ⟨b, o, ha, hb, fun i hi => ?_⟩
    rw [hc i (by rw [List.length_append]; omega), List.getElem?_append_left hi]
section
variable {P : Program} {G : Ctx} {n : Sz} {ops : Array Oper} {Q : Post} {s : Fm} {H : List Ent} {o : Oper} {rest : List Oper}
theorem rd_off {e sz len c b : Nat} {xs ys zs us : List Value} (off : Nat) (h0 : off = xs.length) (h1 : 0 < ys.length) : RdC G (.own e sz (some ⟨b, 0, none⟩) len c (xs ++ ys ++ zs) :: H) (some ⟨b, off, none⟩) (ys ++ zs) := ⟨fun w hw => by
  have h := (Rd.mem (G := G) (H := .own e sz (some ⟨b, 0, none⟩) len c (xs ++ ys ++ zs) :: H) List.mem_cons_self) w hw
  have h2 := at_off h off (by rw [List.length_append, List.length_append]; omega)
  rw [List.append_assoc, h0, List.drop_left] at h2
  rw [h0]
  exact h2⟩
theorem rd_pre {a : Option Addr} {xs ys : List Value} (h : RdC G H a (xs ++ ys)) : RdC G H a xs := ⟨fun w hw => at_pre (h.here w hw)⟩
theorem elemPtr_off (b off k : Nat) : elemPtr (some ⟨b, off, none⟩) k = elemPtr (some ⟨b, 0, none⟩) (off + k) := by
  simp only [elemPtr, Option.map_some, Addr.add_mid, Nat.zero_add]
/-- Several cells, through a piece, into a row that the call holds. -/
theorem c_storeesO {t e sz sz2 len c b off k : Nat} {x y : Operand} {xs vs : List Value} {H' : List Ent} (hg : o.guard = none) (ho : o.op = .store t x y) [h : Ag P t sz2] (hx : ev s x = some (elemPtr (some ⟨b, off, none⟩) k)) (hy : ev s y = some (.agg vs.toArray)) [hp : PickOwn H (some ⟨b, 0, none⟩) e sz len c xs H'] (h1 : vs.all (·.oneCell') = true)
    (hv : vs.length = sz2) (h0 : 0 < sz2) (hl : off + k + sz2 ≤ xs.length) (hd : o.dst = none) (hk : SL P G n ops Q rest s (.own e sz (some ⟨b, 0, none⟩) len c (over xs (off + k) vs) :: H')) : SL P G n ops Q (o :: rest) s H := by
  rw [elemPtr_off] at hx
  exact c_storees hg ho hx hy h1 hv h0 hl hd hk
end
end Go.Sx
namespace Go.Sx
open Go Go.RowKit Go.Fw
instance (priority := low) rdApp {G : Ctx} {A H : List Ent} {a : Option Addr} {xs : List Value} [h : RdC G H a xs] : RdC G (A ++ H) a xs := ⟨h.here.mono fun _ hw => hw.sub (List.sublist_append_right A H)⟩
theorem Pick.app {x : Ent} {H H' : List Ent} (h : Pick x H H') : ∀ A : List Ent, Pick x (A ++ H) (A ++ H')
  | [] => h
  | _ :: A => .there (Pick.app h A)
instance (priority := low) hasBlkApp {A H : List Ent} {b : Nat} {t : TypeId} {cs : List Value} [h : HasBlk H b t cs] : HasBlk (A ++ H) b t cs := ⟨List.mem_append_right _ h.here⟩
instance (priority := low) pickBlkApp {A H H' : List Ent} {b : Nat} {t : TypeId} {cs : List Value} [h : PickBlk H b t cs H'] : PickBlk (A ++ H) b t cs (A ++ H') := ⟨h.here.app A⟩
theorem own_some {G : Ctx} {H : List Ent} {e sz n c : Nat} {a : Option Addr} {xs : List Value} {w : World} (h : Holds G H w) (hm : Ent.own e sz a n c xs ∈ H) (hn : 0 < n) : ∃ b, a = some ⟨b, 0, none⟩ ∧ n ≤ c := by
  have ho : w.ownsRow G.B e sz (.slice a n c) n xs := h.ok _ hm
  rcases ho.2 with ⟨hv, h0⟩ | ⟨g, cap, cur, hv, -, -, hc, -⟩
  · omega
  · injection hv with h1 h2 h3
    exact ⟨g, h1, by omega⟩
/-- A slice's address, its room and what it holds. -/
abbrev Rx (α : Type) := Option Addr × Nat × List α
def rxV {α : Type} (x : Rx α) : Value := .slice x.1 x.2.2.length x.2.1
/-- It can be read, and has its room. -/
def Sl {α : Type} (f : List α → List Value) (G : Ctx) (H : List Ent) (x : Rx α) : Prop := ∀ w, Holds G H w → x.2.2.length ≤ x.2.1 ∧ (x.2.2.length ≤ maxLen ∧ At w x.1 (f x.2.2))
/-- Each of these can be read. -/
def RdX {α : Type} (f : List α → List Value) (G : Ctx) (H : List Ent) (X : List (Rx α)) : Prop := ∀ x ∈ X, Sl f G H x
section
variable {α : Type} {f : List α → List Value} {G : Ctx} {H H' E : List Ent} {X Y : List (Rx α)} {x : Rx α}
theorem Sl.mono (h : Sl f G H x) (hs : ∀ w, Holds G H' w → Holds G H w) : Sl f G H' x := fun w hw => h w (hs w hw)
theorem Sl.app (h : Sl f G H x) : Sl f G (E ++ H) x := h.mono fun _ hw => hw.sub (List.sublist_append_right E H)
theorem Sl.cons {e : Ent} (h : Sl f G H x) : Sl f G (e :: H) x := h.mono fun _ hw => hw.drop
theorem Sl.rd (h : Sl f G H x) : RdC G H x.1 (f x.2.2) := ⟨fun w hw => (h w hw).2.2⟩
theorem Sl.nil (hf : f [] = []) : Sl f G H (none, 0, []) := fun w _ => ⟨Nat.le_refl _, Nat.zero_le _, by rw [hf]; exact .inl rfl⟩
theorem Sl.own {e sz : Nat} {a : Option Addr} {n c : Nat} {L : List α} {vs : List Value} (hm : Ent.own e sz a n c vs ∈ H) (hv : vs = f L) (hn : n = L.length) : Sl f G H (a, c, L) := fun w hw => by
  subst hv
  have ho : w.ownsRow G.B e sz (.slice a n c) n (f L) := hw.ok _ hm
  have hb : L.length ≤ c ∧ L.length ≤ maxLen := by
    rcases ho.2 with ⟨hv, h0⟩ | ⟨g, cap, cur, hv, -, -, hn', hm', -⟩
    · omega
    · have : c = cap := by injection hv
      omega
  exact ⟨hb.1, hb.2, (Rd.mem hm) w hw⟩
theorem sc_imp {P : Program} {g : FuncId} {args : List Value} {R R' : Value → List Ent → Prop} (h : SC P G g args H R) (hi : ∀ v H', R v H' → R' v H') : SC P G g args H R' := ⟨h.1, fun w hw => (h.2 w hw).mono fun e w' ⟨v, H', h1, h2, h3⟩ => ⟨v, H', h1, h2, hi v H' h3⟩⟩
theorem RdX.nil : RdX f G H [] := fun _ h => nomatch h
theorem RdX.mono (h : RdX f G H X) (hs : ∀ w, Holds G H' w → Holds G H w) : RdX f G H' X := fun x hx => (h x hx).mono hs
theorem RdX.app (h : RdX f G H X) : RdX f G (E ++ H) X := h.mono fun _ hw => hw.sub (List.sublist_append_right E H)
theorem RdX.cons {e : Ent} (h : RdX f G H X) : RdX f G (e :: H) X := h.mono fun _ hw => hw.drop
theorem RdX.snoc (h : RdX f G H X) (h1 : Sl f G H x) : RdX f G H (X ++ [x]) := fun y hy => by
  rcases List.mem_append.1 hy with hy | hy
  · exact h y hy
  · obtain rfl := List.mem_singleton.1 hy
    exact h1
theorem RdX.sub (h : RdX f G H X) (hs : ∀ y ∈ Y, y ∈ X) : RdX f G H Y := fun y hy => h y (hs y hy)
theorem RdX.set {k : Nat} (h : RdX f G H X) (h1 : Sl f G H x) : RdX f G H (X.set k x) := fun y hy => by
  rcases List.mem_or_eq_of_mem_set hy with hy | rfl
  · exact h y hy
  · exact h1
theorem RdX.at {k : Nat} (h : RdX f G H X) (hx : X[k]? = some x) : Sl f G H x := h x (List.mem_of_getElem? hx)
end
theorem map_at {α β : Type} (f : α → β) {X : List α} {k : Nat} {x : α} (h : X[k]? = some x) : (X.map f)[k]? = some (f x) := by rw [List.getElem?_map, h]; rfl
theorem get_of {α : Type} {X : List α} {k : Nat} (h : k < X.length) : ∃ x, X[k]? = some x := ⟨X[k], List.getElem?_eq_getElem h⟩
theorem take_snoc {α : Type} {X : List α} {k : Nat} {x : α} (h : X[k]? = some x) : X.take (k + 1) = X.take k ++ [x] := by
  obtain ⟨hk, he⟩ := List.getElem?_eq_some_iff.1 h
  rw [List.take_succ_eq_append_getElem hk, he]
theorem drop_at {α : Type} {X : List α} {k : Nat} {x : α} (h : X[k]? = some x) : X.drop k = x :: X.drop (k + 1) := by
  obtain ⟨hk, he⟩ := List.getElem?_eq_some_iff.1 h
  rw [List.drop_eq_getElem_cons hk, he]
/-- Elements of so many cells each. -/
class En {α : Type} (en : α → List Value) (sz : outParam Nat) : Prop where
  len : ∀ x, (en x).length = sz
theorem take?_of : ∀ {l : List Value} {k : Nat}, k ≤ l.length → take? l k = some (l.take k)
  | _, 0, _ => by simp [take?]
  | [], k + 1, h => by simp at h
  | x :: l, k + 1, h => by
    simp only [List.length_cons] at h
    simp [take?, take?_of (show k ≤ l.length by omega)]
section
variable {α : Type} {en : α → List Value} {sz : Nat} [he : En en sz]
theorem fm_len : ∀ L : List α, (L.flatMap en).length = L.length * sz
  | [] => by simp
  | x :: L => by rw [List.flatMap_cons, List.length_append, fm_len L, he.len, List.length_cons, Nat.add_mul]; omega
theorem fm_drop : ∀ (k : Nat) (L : List α), (L.flatMap en).drop (k * sz) = (L.drop k).flatMap en
  | 0, L => by simp
  | k + 1, [] => by simp
  | k + 1, x :: L => by
    rw [List.flatMap_cons, show (k + 1) * sz = (en x).length + k * sz from by rw [he.len, Nat.add_mul]; omega, List.drop_length_add_append, fm_drop k L]
    rfl
theorem fm_cell {L : List α} {k : Nat} {x : α} (j : Nat) (hx : L[k]? = some x) (hj : j < sz) : (L.flatMap en)[k * sz + j]? = (en x)[j]? := by
  rw [← List.getElem?_drop, fm_drop, drop_at hx, List.flatMap_cons, List.getElem?_append_left (by rw [he.len]; exact hj)]
theorem fm_elem {L : List α} {k : Nat} {x : α} (hx : L[k]? = some x) : take? ((L.flatMap en).drop (k * sz)) sz = some (en x) := by
  rw [fm_drop, drop_at hx, List.flatMap_cons, take?_of (by rw [List.length_append, he.len]; omega), List.take_append_of_le_length (by rw [he.len]; exact Nat.le_refl _), List.take_of_length_le (by rw [he.len]; exact Nat.le_refl _)]
theorem fm_snoc (L : List α) (x : α) : (L ++ [x]).flatMap en = L.flatMap en ++ en x := by rw [List.flatMap_append]; simp
theorem fm_one (L : List α) (h : ∀ x, (en x).all (·.oneCell') = true) : (L.flatMap en).all (·.oneCell') = true := by
  rw [List.all_flatMap]
  exact List.all_eq_true.2 fun x _ => h x
end
theorem zeros_eq (zc : List Value) (n sz : Nat) (hz : zc.length = sz) (h0 : 0 < sz) : (Array.range (n * sz)).map (fun x => (zc.toArray)[x % zc.toArray.size]!) = ((List.replicate n zc).flatten).toArray := by
  have e : (List.replicate n zc).flatten = (List.range n).flatMap fun _ => zc := by
    rw [List.flatMap_def]
    congr 1
    rw [List.map_const', List.length_range]
  haveI : En (fun _ : Nat => zc) sz := ⟨fun _ => hz⟩
  rw [e]
  apply Array.toList_inj.1
  apply List.ext_getElem?
  intro i
  simp only [Array.toList_map, Array.toList_range, List.getElem?_map]
  rcases Nat.lt_or_ge i (n * sz) with hi | hi
  · have hd : i / sz < n := by rw [Nat.div_lt_iff_lt_mul h0]; exact hi
    have h3 := fm_cell (en := fun _ : Nat => zc) (L := List.range n) (k := i / sz) (x := i / sz) (i % sz) (List.getElem?_range hd) (Nat.mod_lt _ h0)
    rw [Nat.div_add_mod'] at h3
    rw [h3, List.getElem?_range hi]
    have hm := Nat.mod_lt i h0
    simp only [Option.map_some, List.size_toArray, hz]
    rw [List.getElem?_eq_getElem (by omega)]
    simp [hz, hm]
  · rw [List.getElem?_eq_none (by rw [List.length_range]; exact hi), List.getElem?_eq_none (by rw [fm_len, List.length_range]; exact hi)]
    rfl
section
variable {P : Program} {G : Ctx} {n : Sz} {ops : Array Oper} {Q : Post} {s : Fm} {H : List Ent} {o : Oper} {rest : List Oper}
/-- A literal row whose elements are structs. -/
theorem c_bsA {t e sz bytes len d : Nat} {parts : Array (Nat × Operand)} {zc cs : List Value} {l : List (Nat × List Value)} (hg : o.guard = none) (ho : o.op = .buildSlice t len parts) [hT : SliceT P t e sz bytes] [hz : ZeroT P e zc] (hp : parts? s parts.toList = some l) (hf : fillL? (arrOffs len sz) (List.replicate len zc).flatten l = some cs)
    (hl : Nat.beq cs.length (len * sz) = true) (h0 : Nat.blt 0 len = true) (hm : Nat.ble (len * sz) 1000 = true) (h1d : o.dst = some d) (h2d : Nat.blt d n.n = true)
    (hk : ∀ b, SL P G n ops Q rest ((d, .slice (some ⟨b, 0, none⟩) len len) :: s) (.own e sz (some ⟨b, 0, none⟩) len len cs :: H)) : SL P G n ops Q (o :: rest) s H := by
  obtain ⟨hu, hsz, hby, z', hzi, hzs⟩ := hT.here
  obtain ⟨z, hz1, hz2⟩ := hz.here
  obtain ⟨ie, hi, hiz⟩ := zero_info hz1
  rw [hi] at hzi
  simp only [Option.map_some, Option.some.injEq, Prod.mk.injEq] at hzi
  obtain ⟨e1, e2, e3⟩ := hzi
  rw [hiz] at e1
  obtain rfl := Option.some.inj e1
  have hzl : zc.length = sz := by rw [← hzs, hz2.cells]; simp
  have hl' := Nat.eq_of_beq_eq_true hl
  have hm' := Nat.le_of_ble_eq_true hm
  have h0' : 0 < len := by simpa [Nat.blt_eq] using h0
  have hpos : 0 < len * sz := Nat.mul_pos h0' hsz
  have hd := okd (n := n) h1d h2d
  simp only [← updd h1d] at hk
  refine sl_op (.inl hg) fun a w ha hw K hK => ?_
  obtain ⟨q1, q2⟩ := parts?_eq parts.toList l a ha hp
  have hb : builtSlice P e len ((parts.map fun (i, x) => (i, a.eval x)).toList) = some cs.toArray := by
    unfold builtSlice
    simp only [hi, hiz, e2]
    rw [if_neg (by omega), hz2.cells, zeros_eq zc len sz hzl hsz]
    rw [Array.toList_map]
    exact fillL?_eq (arrOffs len sz) (fun i => some (i * sz, sz)) (fun i p h => arrOffs_at len sz i p h) l _ _ cs q1 q2 hf
  unfold Oper.wp execOp
  simp only [ho, Sem.run_bind, run_buildSlice w t e len _ cs.toArray hu hb, Result.andThen_ok]
  have hw2 := hw.alloc e cs
  have hlm : len ≤ len * sz := Nat.le_mul_of_pos_right _ hsz
  have hw3 : Holds G (.own e sz (some ⟨w.heap.size, 0, none⟩) len len cs :: H) (w.alloc (.cells cs.toArray e)) := by
    refine ⟨hw2.below, hw2.base, fun x hx => ?_, List.pairwise_cons.2 ⟨fun y hy k hk => (List.pairwise_cons.1 hw2.apart).1 y hy k hk, (List.pairwise_cons.1 hw2.apart).2⟩⟩
    rcases List.mem_cons.1 hx with rfl | hx
    · have := hw2.ok _ List.mem_cons_self
      exact ⟨hl', .inr ⟨w.heap.size, len, cs.toArray, rfl, this.1, this.2, Nat.le_refl _, by unfold maxLen; omega, by simpa using hl', by rw [← hl']; simp⟩⟩
    · exact hw2.ok x (List.mem_cons_of_mem _ hx)
  exact hK _ _ (hk _ _ _ (ha.put _ _ hd) hw3)
end
end Go.Sx
end
section
namespace Go.Proofs.YtmbfechiallppaaGreatDoor
open Go Go.RowKit Go.ChangeShapes Go.WideShapes Go.ChangeAt Go.Sx Go.Fw
/-- What a type's cells are, when they read. -/
class Tr (P : Program) (t : TypeId) (α : outParam Type) (en : outParam (α → List Value)) (ok : outParam (World → α → Prop)) (bk : outParam (α → Nat)) : Prop where
  op : ∀ {H : Type} {enc : TypeId × Value → H} {W : World} {sp : Nat → Bool} {hd : Bool} {fuel : Nat} {cs : List Value} {x : DataW H × List MemPlace}, DataW.trod enc P W 0 sp hd fuel t cs = some x → ∃ y : α, cs = en y ∧ ok W y ∧ bk y + 1 ≤ Rows.uptoBulk x.1
  sz : ∀ y, (en y).length = P.cellsOf t
section
variable {P : Program} {t : TypeId}
theorem Tr.int {k : IntKind} (ht : P.underlying t = some (.int k)) (hc : P.cellsOf t = 1) : Tr P t Int (fun z => [.int k z]) (fun _ z => (Lit.int k z).wf = true) (fun _ => 0) := ⟨fun h => by
  obtain ⟨n, h1, h2, h3⟩ := DataW.trod_int ht h
  exact ⟨n, h1, h3, by rw [h2]; exact one_le _⟩, fun _ => hc.symm⟩
theorem Tr.bool (ht : P.underlying t = some .bool) (hc : P.cellsOf t = 1) : Tr P t Bool (fun z => [.bool z]) (fun _ _ => True) (fun _ => 0) := ⟨fun h => by
  obtain ⟨n, h1, h2⟩ := DataW.trod_bool ht h
  exact ⟨n, h1, trivial, by rw [h2]; exact one_le _⟩, fun _ => hc.symm⟩
theorem Tr.str (ht : P.underlying t = some .string) (hc : P.cellsOf t = 1) : Tr P t ByteArray (fun z => [.string z]) (fun _ z => z.size ≤ maxLen) (fun z => z.size) := ⟨fun h => by
  obtain ⟨n, h1, h2, h3⟩ := DataW.trod_string ht h
  refine ⟨n, h1, h3, ?_⟩
  rw [h2]
  have e : n.data.toList.length = n.size := by rw [Array.length_toList]; rfl
  simp only [Rows.uptoBulk]
  omega, fun _ => hc.symm⟩
theorem bulkAll_app {H : Type} : ∀ (l r : List (DataW H)), Rows.uptoBulkAll (l ++ r) = Rows.uptoBulkAll l + Rows.uptoBulkAll r
  | [], r => by simp [Rows.uptoBulkAll]
  | x :: l, r => by rw [List.cons_append]; simp only [Rows.uptoBulkAll]; rw [bulkAll_app l r]; omega
theorem Tr.slice {e : TypeId} {α : Type} {en : α → List Value} {ok : World → α → Prop} {bk : α → Nat} (he : Tr P e α en ok bk) (ht : P.underlying t = some (.slice e)) (hc : P.cellsOf t = 1) (h0 : 0 < P.cellsOf e) : Tr P t (Rx α) (fun x => [rxV x]) (fun W x => x.2.2.length ≤ x.2.1 ∧ x.2.2.length ≤ maxLen ∧ At W x.1 (x.2.2.flatMap en) ∧ ∀ y ∈ x.2.2, ok W y) (fun x => (x.2.2.map fun y => bk y + 1).sum) := ⟨fun {H enc W sp hd fuel cs x} h => by
  rcases DataW.trod_slice ht h with ⟨hcs, hx⟩ | ⟨a, len, cap, elems, rest, n, -, hcs, hx, -, hl, hm, hlen, hel, -, -⟩
  · exact ⟨(none, 0, []), hcs, ⟨Nat.le_refl _, by simp [maxLen], .inl rfl, fun y hy => nomatch hy⟩, by rw [hx]; exact one_le _⟩
  · have each : ∀ i, i < len → ∃ q : α, (ok W q ∧ ∃ z, elems[i]? = some z ∧ bk q + 1 ≤ Rows.uptoBulk z.1) ∧ ∀ j, j < P.cellsOf e → W.cell? ((a.add (i * P.cellsOf e)).add j) = (en q)[j]? := fun i hi => by
      have h1 := hel i hi
      rw [List.getElem?_eq_getElem (by omega : i < elems.length), Option.bind_eq_some_iff] at h1
      obtain ⟨cs', hc, ht⟩ := h1
      obtain ⟨q, rfl, hq, hb⟩ := he.op ht
      obtain ⟨_, hlen', hcell⟩ := World.cells?_some hc
      exact ⟨q, ⟨hq, _, List.getElem?_eq_getElem _, hb⟩, fun j hj => hcell j hj⟩
    obtain ⟨L, hL, hLe, hLb⟩ : ∃ L : List α, L.length = len ∧ (∀ i x, L[i]? = some x → ok W x ∧ ∀ j, j < P.cellsOf e → W.cell? ((a.add (i * P.cellsOf e)).add j) = (en x)[j]?) ∧ (L.map fun y => bk y + 1).sum ≤ Rows.uptoBulkAll ((elems.take len).map (·.1)) := by
      clear hel hcs hm hl h hx
      have hle : len ≤ elems.length := by omega
      clear hlen
      induction len with
      | zero => exact ⟨[], rfl, fun i x hx => by simp at hx, by simp⟩
      | succ m ih =>
        obtain ⟨L, h1, h2, h3⟩ := ih (fun i hi => each i (by omega)) (by omega)
        obtain ⟨q, hq, hq2⟩ := each m (by omega)
        refine ⟨L ++ [q], by simp [h1], fun i x hx => ?_, ?_⟩
        · rcases Nat.lt_or_ge i L.length with hi | hi
          · rw [List.getElem?_append_left hi] at hx
            exact h2 i x hx
          · rw [List.getElem?_append_right hi] at hx
            rcases Nat.eq_zero_or_pos (i - L.length) with h0 | h0
            · rw [h0] at hx
              obtain rfl : q = x := by simpa using hx
              obtain rfl : i = m := by omega
              exact ⟨hq.1, hq2⟩
            · rw [List.getElem?_eq_none (by simp; omega)] at hx
              cases hx
        · rw [List.take_succ_eq_append_getElem (by omega), List.map_append, List.map_append, List.sum_append, bulkAll_app]
          obtain ⟨z, hz, this⟩ := hq.2
          rw [List.getElem?_eq_getElem (by omega)] at hz
          rw [Option.some.inj hz]
          simp only [List.map_cons, List.map_nil, List.sum_cons, List.sum_nil, Rows.uptoBulkAll]
          omega
    refine ⟨(some a, cap, L), by rw [hcs]; simp [rxV, hL], ⟨by dsimp only; omega, by dsimp only; omega, ?_, fun y hy => ?_⟩, ?_⟩
    · dsimp only
      by_cases hz : len = 0
      · left
        subst hz
        rw [List.eq_nil_of_length_eq_zero hL]; rfl
      · right
        obtain ⟨x0, hx0⟩ := get_of (X := L) (k := 0) (by omega)
        have hc0 := (hLe 0 x0 hx0).2 0 h0
        have hv0 : ∃ u, (en x0)[0]? = some u := ⟨(en x0)[0]'(by rw [he.sz]; exact h0), List.getElem?_eq_getElem _⟩
        obtain ⟨u, hu⟩ := hv0
        rw [hu] at hc0
        obtain ⟨b, o, sp'⟩ := a
        have hsp : sp' = none := by
          cases sp' with
          | none => rfl
          | some y =>
            exfalso
            simp only [World.cell?, Addr.add] at hc0
            split at hc0 <;> simp_all
        subst hsp
        refine ⟨b, o, rfl, World.block_lt_of_cell? W _ (u := u) (by have := hc0; simpa [Addr.add] using this), fun i hi => ?_⟩
        have hfl : (L.flatMap en).length = len * P.cellsOf e := by
          haveI : En en (P.cellsOf e) := ⟨he.sz⟩
          rw [fm_len, hL]
        rw [hfl] at hi
        have hdiv : i / P.cellsOf e < len := by
          rw [Nat.div_lt_iff_lt_mul h0]
          exact hi
        obtain ⟨y, hy⟩ := get_of (X := L) (k := i / P.cellsOf e) (by omega)
        have h3 := (hLe _ y hy).2 (i % P.cellsOf e) (Nat.mod_lt _ h0)
        rw [Fw.add_plain, Fw.add_plain, Nat.add_assoc, Nat.div_add_mod'] at h3
        haveI : En en (P.cellsOf e) := ⟨he.sz⟩
        have h4 := fm_cell (en := en) (L := L) (i % P.cellsOf e) hy (Nat.mod_lt _ h0)
        rw [Nat.div_add_mod'] at h4
        rw [h3, h4]
    · obtain ⟨i, hi, rfl⟩ := List.getElem_of_mem hy
      exact (hLe i _ (List.getElem?_eq_getElem hi)).1
    · rw [List.take_of_length_le (by omega)] at hLb
      rw [hx]
      simp only [Rows.uptoBulk]
      omega, fun _ => hc.symm⟩
/-- The fields of a struct, from one on. -/
structure TrS (P : Program) (l : List (Nat × TypeId)) (o n : Nat) (α : Type) (en : α → List Value) (ok : World → α → Prop) (bk : α → Nat) : Prop where
  op : ∀ {H : Type} {enc : TypeId × Value → H} {W : World} {sp : Nat → Bool} {hd : Bool} {fuel : Nat} {cs : List Value} {xs : List (DataW H × List MemPlace)}, cs.length = n → xs.length = l.length → (∀ (i : Nat) (p : Nat × TypeId), l[i]? = some p → DataW.trod enc P W 0 sp hd fuel p.2 ((cs.drop p.1).take (P.cellsOf p.2)) = xs[i]?) → ∃ y : α, cs.drop o = en y ∧ ok W y ∧ bk y ≤ Rows.uptoBulkAll (xs.map (·.1))
  sz : ∀ y, o + (en y).length = n
theorem TrS.one {o n : Nat} {α : Type} {en : α → List Value} {ok : World → α → Prop} {bk : α → Nat} (h : Tr P t α en ok bk) (hn : o + P.cellsOf t = n) : TrS P [(o, t)] o n α en ok bk := ⟨fun {H enc W sp hd fuel cs xs} hl hx he => by
  match xs, hx with
  | [x], _ =>
    have h1 := he 0 _ rfl
    obtain ⟨y, h2, h3, h4⟩ := h.op (x := x) h1
    refine ⟨y, ?_, h3, ?_⟩
    · rw [← h2, List.take_of_length_le (by rw [List.length_drop]; show cs.length - o ≤ P.cellsOf t; omega)]
    · simp only [List.map_cons, List.map_nil, Rows.uptoBulkAll]
      omega, fun y => by rw [h.sz, hn]⟩
theorem TrS.cons {o o' n : Nat} {α β : Type} {l : List (Nat × TypeId)} {en : α → List Value} {ok : World → α → Prop} {bk : α → Nat} {en2 : β → List Value} {ok2 : World → β → Prop} {bk2 : β → Nat} (h : Tr P t α en ok bk) (ho : o + P.cellsOf t = o') (hr : TrS P l o' n β en2 ok2 bk2) :
    TrS P ((o, t) :: l) o n (α × β) (fun p => en p.1 ++ en2 p.2) (fun W p => ok W p.1 ∧ ok2 W p.2) (fun p => bk p.1 + bk2 p.2) := ⟨fun {H enc W sp hd fuel cs xs} hl hx he => by
  match xs, hx with
  | x :: xs, hx =>
    obtain ⟨y, h2, h3, h4⟩ := h.op (x := x) (he 0 _ rfl)
    obtain ⟨z, h5, h6, h7⟩ := hr.op (xs := xs) hl (by simpa using hx) fun i p hp => he (i + 1) p (by simpa using hp)
    refine ⟨(y, z), ?_, ⟨h3, h6⟩, ?_⟩
    · dsimp only
      rw [← h2, ← h5, ← ho, ← List.drop_drop]
      exact (List.take_append_drop _ _).symm
    · simp only [List.map_cons, Rows.uptoBulkAll]
      omega, fun y => by rw [List.length_append, h.sz, ← Nat.add_assoc, ho, hr.sz]⟩
theorem Tr.struct {fs : Array Field} {l : List (Nat × TypeId)} {n : Nat} {α : Type} {en : α → List Value} {ok : World → α → Prop} {bk : α → Nat} (hr : TrS P l 0 n α en ok bk) (ht : P.underlying t = some (.struct fs)) (hl : (fs.toList.map fun f => (f.offset, f.type)) = l) (hc : P.cellsOf t = n) : Tr P t α en ok bk := ⟨fun {H enc W sp hd fuel cs x} h => by
  obtain ⟨xs, m, -, hx, hlen, hxs, hel⟩ := DataW.trod_struct ht h
  have hll : l.length = fs.size := by rw [← hl]; simp
  obtain ⟨y, h2, h3, h4⟩ := hr.op (enc := enc) (W := W) (sp := sp) (hd := hd) (fuel := m) (cs := cs) (xs := xs) (by rw [hlen, hc]) (by rw [hxs, hll]) fun i p hp => by
    rw [← hl, List.getElem?_map] at hp
    cases hf : fs.toList[i]? with
    | none => rw [hf] at hp; cases hp
    | some f =>
      rw [hf] at hp
      obtain rfl := Option.some.inj hp
      exact hel i f (by simpa using hf)
  refine ⟨y, by rw [← h2, List.drop_zero], h3, ?_⟩
  rw [hx]
  simp only [Rows.uptoBulk]
  omega, fun y => by have := hr.sz y; rw [hc]; omega⟩
theorem Tr.array {e : TypeId} {n : Nat} {α : Type} {en : α → List Value} {ok : World → α → Prop} {bk : α → Nat} (he : Tr P e α en ok bk) (ht : P.underlying t = some (.array n e)) (hc : P.cellsOf t = n * P.cellsOf e) : Tr P t {L : List α // L.length = n} (fun L => L.1.flatMap en) (fun W L => ∀ y ∈ L.1, ok W y) (fun _ => 0) := ⟨fun {H enc W sp hd fuel cs x} h => by
  obtain ⟨xs, m, -, hx, hlen, hxs, hel⟩ := DataW.trod_array ht h
  have each : ∀ i, i < n → ∃ q : α, ok W q ∧ (cs.drop (i * P.cellsOf e)).take (P.cellsOf e) = en q := fun i hi => by
    have h1 := hel i hi
    rw [List.getElem?_eq_getElem (by omega : i < xs.length)] at h1
    obtain ⟨q, h2, h3, -⟩ := he.op h1
    exact ⟨q, h3, h2⟩
  have key : ∀ k, k ≤ n → ∃ L : List α, L.length = k ∧ (∀ y ∈ L, ok W y) ∧ cs.take (k * P.cellsOf e) = L.flatMap en := fun k => by
    induction k with
    | zero => exact fun _ => ⟨[], rfl, fun y hy => (nomatch hy), by simp⟩
    | succ k ih =>
      intro hk
      obtain ⟨L, h1, h2, h3⟩ := ih (by omega)
      obtain ⟨q, h4, h5⟩ := each k (by omega)
      refine ⟨L ++ [q], by simp [h1], fun y hy => ?_, ?_⟩
      · rcases List.mem_append.1 hy with hy | hy
        · exact h2 y hy
        · obtain rfl := List.mem_singleton.1 hy
          exact h4
      · rw [List.flatMap_append, ← h3, Nat.add_mul, Nat.one_mul, List.take_add, h5]
        simp
  obtain ⟨L, h1, h2, h3⟩ := key n (Nat.le_refl _)
  refine ⟨⟨L, h1⟩, ?_, h2, by rw [hx]; exact one_le _⟩
  dsimp only
  rw [← h3, List.take_of_length_le (by rw [hlen, hc]; exact Nat.le_refl _)], fun L => by
  haveI : En en (P.cellsOf e) := ⟨he.sz⟩
  rw [hc, fm_len, L.2]⟩
theorem tr_str {H : Type} {enc : TypeId × Value → H} {W : World} {base : Nat} {v : Value} {d : DataW H} {ps : List MemPlace} (ht : P.underlying t = some .string) {ok : World → ByteArray → Prop} {bk : ByteArray → Nat} (tr : Tr P t ByteArray (fun z => [.string z]) ok bk)
    (k : Value.okWide P W .any base t v) (h : DataW.Trod enc P W 0 (fun _ => true) true t v d ps) : ∃ y : ByteArray, v = .string y ∧ ok W y ∧ bk y + 1 ≤ Rows.uptoBulk d := by
  obtain ⟨z, rfl⟩ := okWide_string ht k
  obtain ⟨fuel, hf⟩ := h
  obtain ⟨y, h1, h2, h3⟩ := tr.op hf
  simp only [Value.cells] at h1
  exact ⟨y, by simpa using h1, h2, h3⟩
end
end Go.Proofs.YtmbfechiallppaaGreatDoor
end
section
namespace Go.Proofs.YtmbfechiallppaaGreatDoor
open Go
mutual
/-- The cells of a datum without places. -/
def dCells : DataW Unit → List Value
  | .lit (.int k z) => [.int k z]
  | .lit (.bool b) => [.bool b]
  | .agg parts => dCellsAll parts
  | _ => []
def dCellsAll : List (DataW Unit) → List Value
  | [] => []
  | d :: r => dCells d ++ dCellsAll r
end
end Go.Proofs.YtmbfechiallppaaGreatDoor
end
