/- Rows of bytes that the call may append to, made by append or by the conversion of a text. -/
import Derived.Test.YthllelffblpdkaaDoorSx31
import Derived.Test.YthllelffblpdkaaDoorSx27
import Derived.ArgAppend
namespace Go.Sx
open Go Go.RowKit Go.Fw
def rowObj (e : TypeId) (cs : List Value) : Obj := .cells cs.toArray e (cs.length, cs.length + 1)
theorem bytesObj_row (e : TypeId) (xs : List Int) (m : Nat) : bytesObj e xs m = rowObj e (octs xs ++ List.replicate m (Value.int .u8 0)) := by
  unfold bytesObj rowObj
  simp [octs]
/-- A row of bytes: what is held, where it lies, how long it is. -/
inductive BufE (e : TypeId) : Ent → Option Addr → Nat → Nat → List Int → Prop where
  | own (a : Option Addr) (n c : Nat) (xs : List Int) : BufE e (.own e 1 a n c (octs xs)) a n c xs
  | obj (g n c : Nat) (xs : List Int) (tl : List Value) (hn : n = xs.length) (hc : c = n + tl.length) (hm : c ≤ maxLen) : BufE e (.obj g (rowObj e (octs xs ++ tl))) (some ⟨g, 0, none⟩) n c xs
class PickE (H : List Ent) (X : Ent) (H' : outParam (List Ent)) : Prop where
  here : Pick X H H'
instance (priority := low) pickETail {H H' : List Ent} {X x : Ent} [h : PickE H X H'] : PickE (x :: H) X (x :: H') := ⟨.there h.here⟩
instance pickEHead {H : List Ent} {X : Ent} : PickE (X :: H) X H := ⟨.here _⟩
section
variable {P : Program} {G : Ctx} {n : Nat} {ops : Array Oper} {Q : Post} {s : Fm} {H : List Ent} {o : Oper} {rest : List Oper}
theorem rowObj_at {w : World} {g : Nat} {e : TypeId} {cs : List Value} (h : w.heap[g]? = some (rowObj e cs)) (k : Nat) : w.cell? ⟨g, k, none⟩ = cs[k]? := by
  unfold World.cell?
  simp only [h, rowObj]
  simp
theorem rowObj_fz {w : World} {g : Nat} {e : TypeId} {cs : List Value} (h : w.heap[g]? = some (rowObj e cs)) (k : Nat) (hk : k < cs.length) : w.frozen? ⟨g, k, none⟩ = false := by
  unfold World.frozen?
  simp only [h, rowObj]
  have : ¬ cs.length ≤ k := by omega
  simp [this]
theorem BufE.rd {e : TypeId} {X : Ent} {a : Option Addr} {m c : Nat} {xs : List Int} (h : BufE e X a m c xs) (H : List Ent) : RdC G (X :: H) a (octs xs) := by
  cases h with
  | own => exact rdOwn
  | obj g n c xs tl hn hc hm =>
    refine ⟨fun w hw => ?_⟩
    have h := (hw.ok _ (List.mem_cons_self (a := Ent.obj g (rowObj e (octs xs ++ tl))))).2
    rcases row_at (show w.heap[g]? = some (.cells (octs xs ++ tl).toArray e ((octs xs ++ tl).length, (octs xs ++ tl).length + 1)) from h) with h2 | ⟨b, off, e1, h3, h4⟩
    · exact .inl (List.append_eq_nil_iff.1 h2).1
    · refine .inr ⟨b, off, e1, h3, fun i hi => ?_⟩
      rw [h4 i (by rw [List.length_append]; omega), List.getElem?_append_left hi]
theorem BufE.len {e : TypeId} {X : Ent} {a : Option Addr} {m c : Nat} {xs : List Int} (h : BufE e X a m c xs) {w : World} (hw : Holds G (X :: H) w) : m = xs.length := by
  cases h with
  | own =>
    have := (hw.ok _ List.mem_cons_self : w.ownsRow G.B e 1 (.slice a m c) m (octs xs)).1
    simp [octs] at this
    exact this.symm
  | obj g n c xs tl hn hc hm => exact hn
/-- What stands there, known or not, is let go. -/
theorem Holds.turn {H H' : List Ent} {X : Ent} {w : World} (hw : Holds G (X :: H) w) (X' : Ent) (hk : X'.key = X.key) (h : X'.ok G w) : Holds G (X' :: H) w := by
  obtain ⟨hap, hapH⟩ := List.pairwise_cons.1 hw.apart
  refine ⟨hw.below, hw.base, fun x hx => ?_, List.pairwise_cons.2 ⟨fun y hy k hkk => hap y hy k (hk ▸ hkk), hapH⟩⟩
  rcases List.mem_cons.1 hx with rfl | hx
  · exact h
  · exact hw.ok x (List.mem_cons_of_mem _ hx)
/-- One byte more. -/
theorem c_appendB {x y : Operand} {t e bytes d : Nat} {a a2 : Option Addr} {len c c2 : Nat} {xs : List Int} {v : Int} {X : Ent} {H' : List Ent} (hX : BufE e X a len c xs) (hg : o.guard = none) (ho : o.op = .call { callee := .builtin .append, args := #[x, y], argTypes := #[t, t] })
    [hT : SliceT P t e 1 bytes] (hx : ev s x = some (.slice a len c)) [hp : PickE H X H'] (hy : ev s y = some (.slice a2 1 c2)) [hr : RdC G H a2 [.int .u8 v]] (hb : (len + 1) * bytes ≤ 140737488355328) (h1d : o.dst = some d) (h2d : Nat.blt d n = true)
    (h : ∀ X' a' c', BufE e X' a' (len + 1) c' (xs ++ [v]) → SL P G n ops Q rest ((d, .slice a' (len + 1) c') :: s) (X' :: H')) : SL P G n ops Q (o :: rest) s H := by
  have hoc : octs (xs ++ [v]) = octs xs ++ [.int .u8 v] := by simp [octs]
  cases hX with
  | own =>
    haveI : PickOwn H a e 1 len c (octs xs) H' := ⟨hp.here⟩
    refine c_append (news := [.int .u8 v]) hg ho hx hy rfl rfl hb h1d h2d fun a' c' => ?_
    rw [← hoc]
    exact h _ a' c' (.own a' (len + 1) c' (xs ++ [v]))
  | obj g n' c xs tl hn hc hm =>
    intro act w ha hw
    have hd := okd (n := n) h1d h2d
    simp only [← updd h1d] at h
    replace hg : Want ops o s := .inl hg
    have hwp := hw.pick hp.here
    obtain ⟨hB, hh⟩ : G.B ≤ g ∧ w.heap[g]? = some (rowObj e (octs xs ++ tl)) := hwp.ok _ List.mem_cons_self
    obtain ⟨hu, hsz, hby, z, hz, hzs⟩ := hT.here
    obtain ⟨i0, hi0, hz0, hz1, hz2⟩ := info_parts hz
    obtain ⟨b2, off2, rfl, hc2⟩ := At.someAt (hr.here w hw) (by simp)
    have hlen : len + 1 ≤ 140737488355328 := Nat.le_trans (Nat.le_mul_of_pos_right _ hby) hb
    have hol : (octs xs).length = len := by rw [hn]; simp [octs]
    have hnews : ∀ j u, [Value.int .u8 v][j]? = some u → w.cell? ((⟨b2, off2, none⟩ : Addr).add j) = some u := fun j u hj => by
      rw [Addr.add_mid]; exact (hc2 j (List.getElem?_eq_some_iff.1 hj).1).trans hj
    obtain ⟨hap, hapH⟩ := List.pairwise_cons.1 hwp.apart
    refine wpList_step fun K hK => ?_
    rw [if_pos (hg.wanted ha)]
    unfold Oper.wp execOp
    simp only [ho, resolve, invoke, builtin, Sem.run_bind, Sem.run_pure, Result.andThen_ok, List.map_toArray, List.map_cons, List.map_nil, ha.ev hx, ha.ev hy]
    by_cases hroom : len + 1 ≤ c
    · cases tl with
      | nil => simp at hc; omega
      | cons u tl =>
        have hcl : (octs xs ++ u :: tl).length = c := by rw [List.length_append, hol, hc]
        have hcell : ∀ j, j < [Value.int .u8 v].length → (w.cell? ⟨g, 0 + len * i0.size + j, none⟩).isSome = true := fun j hj => by
          simp only [List.length_singleton] at hj
          rw [hz1, rowObj_at hh, List.getElem?_eq_getElem (by omega)]; rfl
        have hfz : ∀ j, j < [Value.int .u8 v].length → w.frozen? ⟨g, 0 + len * i0.size + j, none⟩ = false := fun j hj => by
          simp only [List.length_singleton] at hj
          rw [hz1]
          exact rowObj_fz hh _ (by omega)
        have hrun := run_append_room_cells (P := P) w t o.type e i0 hu hi0 g 0 len c ⟨b2, off2, none⟩ 1 c2 [.int .u8 v] (by rw [hz1]; rfl) hnews (by intro u hu; simp at hu; subst hu; rfl) hroom hcell hfz
        simp only [hrun, Result.andThen_ok]
        have hset : w.setCells g (0 + len * i0.size) [.int .u8 v] = w.setCell ⟨g, len, none⟩ (.int .u8 v) := by
          rw [hz1, show 0 + len * 1 = len from by omega]; rfl
        rw [hset]
        have hrow : (w.setCell ⟨g, len, none⟩ (.int .u8 v)).heap[g]? = some (rowObj e (octs (xs ++ [v]) ++ tl)) := by
          unfold World.setCell
          simp only [Array.getElem?_modify, if_true, hh, Option.map_some, rowObj]
          congr 1
          simp only [Option.isSome_none, Bool.false_eq_true, if_false]
          rw [List.setIfInBounds_toArray]
          have e1 : (octs xs ++ u :: tl).set len (.int .u8 v) = octs (xs ++ [v]) ++ tl := by
            rw [List.set_append_right _ _ (by omega), hol, Nat.sub_self, hoc]
            simp
          rw [e1]
          have e2 : (octs xs ++ u :: tl).length = (octs (xs ++ [v]) ++ tl).length := by rw [hoc]; simp
          rw [e2]
        have ho2 : ∀ j, j ≠ g → (w.setCell ⟨g, len, none⟩ (.int .u8 v)).heap[j]? = w.heap[j]? := fun j hj => Below.heap_setCell w _ _ j hj
        have hw' : Holds G (.obj g (rowObj e (octs (xs ++ [v]) ++ tl)) :: H') (w.setCell ⟨g, len, none⟩ (.int .u8 v)) := by
          refine ⟨hwp.below.setCell hB _, by simpa [World.setCell] using hwp.base, fun z hz => ?_, List.pairwise_cons.2 ⟨fun y hy k hk => hap y hy k hk, hapH⟩⟩
          rcases List.mem_cons.1 hz with rfl | hz
          · exact ⟨hB, hrow⟩
          · exact Ent.ok_of (hwp.ok z (List.mem_cons_of_mem _ hz)) fun j hj => ho2 j (fun e => hap z hz g rfl (e ▸ hj))
        exact hK _ _ (h _ (some ⟨g, 0, none⟩) c (.obj g (len + 1) c (xs ++ [v]) tl (by simp; omega) (by simp at hc; omega) hm) _ _ (ha.put _ _ hd) hw')
    · obtain ⟨v', w', hrun, r1, r2⟩ := run_append_arg_grows (P := P) w t o.type e i0 z 1 bytes hu hi0 hz0 hz1 hz2 hzs (by decide) ⟨g, 0, none⟩ len c (octs xs) (by omega) (fun j u hj => by
          rw [Addr.add_mid, Nat.zero_add, rowObj_at hh, List.getElem?_append_left (List.getElem?_eq_some_iff.1 hj).1]; exact hj) ⟨b2, off2, none⟩ 1 c2 [.int .u8 v] rfl hnews (by omega) (by unfold maxLen; omega) hb
      simp only [hrun, Result.andThen_ok]
      rcases r1.2 with ⟨-, h0⟩ | ⟨g1, cap, cur, rfl, hbg, hcells, hnc, hcm, hcs, htake⟩
      · omega
      · have hw1 : Holds G H' w' := hwp.drop.stepped none r2 (fun k hk => by cases hk) (fun x hx k hk e => by cases e)
        refine hK _ _ (h _ (some ⟨g1, 0, none⟩) cap (.own _ (len + 1) cap (xs ++ [v])) _ _ (ha.put _ _ hd) ?_)
        refine ⟨hw1.below, hw1.base, fun x hx => ?_, List.pairwise_cons.2 ⟨fun y hy k hk => ?_, hw1.apart⟩⟩
        · rcases List.mem_cons.1 hx with rfl | hx
          · rw [hoc]
            exact ⟨r1.1, .inr ⟨g1, cap, cur, rfl, Nat.le_trans hwp.base hbg, hcells, hnc, hcm, hcs, htake⟩⟩
          · exact hw1.ok x hx
        · intro hyk
          have e1 : k = g1 := by simp only [Ent.key, Value.ownBlock, Option.some.injEq] at hk; exact hk.symm
          have := (Ent.ok_lt (hwp.drop.ok y hy) hyk).2
          omega
/-- The beginning of a row. -/
theorem c_sliceTakeB {t e bytes : Nat} {x : Operand} {hi : Option Operand} {a : Option Addr} {len c : Nat} {h : Int} {xs : List Int} {X : Ent} {H' : List Ent} (hX : BufE e X a len c xs) (ho : o.op = .slice t x none hi none) [hT : SliceT P t e 1 bytes] [hp : PickE H X H'] (hx : ev s x = some (.slice a len c)) (hh : bnd s len hi = some h) (h1 : 0 ≤ h) (h2 : h ≤ len) : Yields P G n s H o (.slice a h.toNat c) := by
  cases hX with
  | own =>
    haveI : PickOwn H a e 1 len c (octs xs) H' := ⟨hp.here⟩
    exact c_sliceTake ho hx hh h1 h2
  | obj g n' c xs tl hn hc hm => exact y_slice0 ho hx hh h1 (by omega)
theorem BufE.shrink {e : TypeId} {X : Ent} {a : Option Addr} {len c m : Nat} {xs : List Int} (hX : BufE e X a len c xs) (hm : m ≤ len) : ∃ X', BufE e X' a m c (xs.take m) ∧ ∀ w H, Holds G (X :: H) w → Holds G (X' :: H) w := by
  cases hX with
  | own =>
    refine ⟨_, .own a m c (xs.take m), fun w H hw => ?_⟩
    have := hw.shrinkA hm
    rw [Nat.mul_one] at this
    rw [show octs (xs.take m) = (octs xs).take m from by simp [octs, List.map_take]]
    exact this
  | obj g n' c xs tl hn hc hcm =>
    have e1 : octs (xs.take m) ++ (octs (xs.drop m) ++ tl) = octs xs ++ tl := by rw [← List.append_assoc, ← (by simp [octs] : octs (xs.take m ++ xs.drop m) = octs (xs.take m) ++ octs (xs.drop m)), List.take_append_drop]
    refine ⟨.obj g (rowObj e (octs (xs.take m) ++ (octs (xs.drop m) ++ tl))), .obj g m c (xs.take m) (octs (xs.drop m) ++ tl) (by rw [List.length_take]; omega) (by rw [List.length_append, hc]; simp [octs]; omega) hcm, fun w H hw => ?_⟩
    rw [e1]
    exact hw
/-- A text made to a row of bytes. -/
theorem BufE.conv {e : TypeId} {g c : Nat} (b : ByteArray) (hc : b.size ≤ c) (hm : c ≤ maxLen) : BufE e (.obj g (bytesObj e (nums b) (c - b.size))) (some ⟨g, 0, none⟩) b.size c (nums b) := by
  rw [bytesObj_row]
  exact .obj g b.size c (nums b) _ (nums_length b).symm (by rw [List.length_replicate]; omega) hm
theorem c_convB {src dst e bytes d : Nat} {x : Operand} {b : ByteArray} (hg : o.guard = none) (ho : o.op = .convert src dst x) [hs : StrT P src] [hT : SliceT P dst e 1 bytes] [he : IntT P e .u8] (hx : ev s x = some (.string b)) (hb : b.size ≤ 140737488355328) (h1d : o.dst = some d) (h2d : Nat.blt d n = true)
    (hk : ∀ X a c, BufE e X a b.size c (nums b) → SL P G n ops Q rest ((d, .slice a b.size c) :: s) (X :: H)) : SL P G n ops Q (o :: rest) s H := by
  obtain ⟨hu, -, -, -⟩ := hT.here
  have hd := okd (n := n) h1d h2d
  simp only [← updd h1d] at hk
  refine sl_op (.inl hg) fun act w ha hw K hK => ?_
  have hcap : b.size ≤ grownCap w b.size 0 e := grownCap_ge w b.size 0 e
  have hcm : grownCap w b.size 0 e ≤ maxLen := grownCap_le_maxLen w b.size 0 e (by unfold maxLen; omega)
  have hrun := run_bytes_of_string (P := P) w src dst e b hs.here hu he.here
  rw [bytesRow_eq b _ hcap] at hrun
  unfold Oper.wp execOp
  simp only [ho, ha.ev hx, Sem.run_bind, hrun, Result.andThen_ok]
  have hw2 : Holds G (.obj w.heap.size (bytesObj e (nums b) (grownCap w b.size 0 e - b.size)) :: H) (w.drew.alloc (bytesObj e (nums b) (grownCap w b.size 0 e - b.size))) := by
    refine hw.obj (by simp [World.alloc, World.drew, -World.alloc_eq, -World.drew_eq]) (by simp [World.alloc, World.drew, -World.alloc_eq, -World.drew_eq]) (fun k hk => ?_) rfl rfl rfl
    exact Below.heap_alloc w.drew _ k hk
  exact hK _ _ (hk _ _ _ (BufE.conv b hcap hcm) _ _ (ha.put _ _ hd) hw2)
end
end Go.Sx
