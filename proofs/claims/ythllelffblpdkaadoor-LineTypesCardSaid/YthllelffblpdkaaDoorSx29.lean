/- A string appended to a row of bytes. -/
import Derived.Test.YthllelffblpdkaaDoorSx28
import Derived.Lib.AppendStr
namespace Go.Sx
open Go Go.RowKit Go.Fw
theorem strCells_octs (s : ByteArray) : Lib.strCells s = octs (nums s) := by
  unfold Lib.strCells octs nums
  rw [List.map_map]; rfl
theorem run_append_anyS {P : Program} {w : World} {B : Nat} {t u ty e : TypeId} {i : TypeInfo} {len c : Nat} {a : Option Addr} {xs : List Value} (ht : P.underlying t = some (.slice e)) (hu : P.underlying u = some .string) (hi : P.info? e = some i) (hz : i.zero = some (.int .u8 0)) (hsize : i.size = 1) (hby : i.bytes = 1)
    (hown : w.ownsRow B e 1 (.slice a len c) len xs) (s : ByteArray) (hb : len + s.size ≤ 140737488355328) (hbase : B ≤ w.heap.size) :
    ∃ a' c' w', (Builtin.append_ #[t, u] ty #[.slice a len c, .string s]).run P w = .ok (.slice a' (len + s.size) c') w' ∧ w'.ownsRow B e 1 (.slice a' (len + s.size) c') (len + s.size) (xs ++ Lib.strCells s) ∧ w.grownBy w' (Value.slice a len c).ownBlock ∧
      (∀ k, (Value.slice a' (len + s.size) c').ownBlock = some k → some k = (Value.slice a len c).ownBlock ∨ w.heap.size ≤ k) := by
  have h63 : len + s.size ≤ maxLen := by unfold maxLen; omega
  obtain ⟨v', w', hr, ho, hg, hn⟩ := Lib.run_append_own_string (P := P) w B t u ty e i ht hu hi hz hsize hby (.slice a len c) len xs hown s h63 hb hbase
  rcases hown.2 with ⟨hv, h0⟩ | ⟨g, cap, cur, hv, hbg, hcells, hnc, hcm, hcs, htake⟩
  · subst h0
    obtain ⟨rfl, rfl⟩ : a = none ∧ c = 0 := by simpa [Value.slice.injEq] using hv
    by_cases hm : s.size = 0
    · have hv' := hn.2 ⟨rfl, hm⟩
      subst hv'
      refine ⟨none, 0, w', by rw [hr, hm], ?_, hg, fun k hk => by simp [Value.ownBlock] at hk⟩
      rw [hm] at ho ⊢
      exact ho
    · have hr2 := run_append_nil_string (P := P) w t u ty e i (.int .u8 0) ht hu hi hz s (by omega) (by omega) (by rw [hby]; omega)
      rw [hr2] at hr
      injection hr with e1 e2
      rw [← e1] at ho
      rw [Nat.zero_add] at ho ⊢
      exact ⟨_, _, w', by rw [hr2, e2], ho, hg, fun k hk => .inr (by simp only [Value.ownBlock, Option.some.injEq] at hk; omega)⟩
  · obtain ⟨rfl, rfl⟩ : a = some ⟨g, 0, none⟩ ∧ c = cap := by simpa [Value.slice.injEq] using hv
    have hxl : xs.length = len := by simpa using hown.1
    by_cases hroom : len + s.size ≤ c
    · have hr2 := Lib.run_append_room_string (P := P) w t u ty e i ht hu hi hsize g len c cur hcells s hroom (by rw [hcs, Nat.mul_one]; exact hroom)
      rw [hr2] at hr
      injection hr with e1 e2
      rw [← e1] at ho
      exact ⟨_, _, w', by rw [hr2, e2], ho, hg, fun k hk => .inl hk.symm⟩
    · have hr2 := Lib.run_append_grow_string (P := P) w t u ty e i (.int .u8 0) ht hu hi hz ⟨g, 0, none⟩ len c xs (by rw [hsize]; simpa using hxl) (hown.cells (g := g) rfl) s (by omega) (by omega) (by rw [hby]; exact growslice_fits (by omega) (by omega))
      rw [hr2] at hr
      injection hr with e1 e2
      rw [← e1] at ho
      exact ⟨_, _, w', by rw [hr2, e2], ho, hg, fun k hk => .inr (by simp only [Value.ownBlock, Option.some.injEq] at hk; omega)⟩
theorem sl_appendS {P : Program} {G : Ctx} {n : Nat} {ops : Array Oper} {Q : Post} {s : Fm} {H : List Ent} {o : Oper} {rest : List Oper} {x y : Operand} {t u e : TypeId} {a : Option Addr} {len c d : Nat} {xs : List Value} {b : ByteArray} {H' : List Ent} (hg : o.guard = none) (ho : o.op = .call { callee := .builtin .append, args := #[x, y], argTypes := #[t, u] })
    (hx : ev s x = some (.slice a len c)) (hp : Pick (.own e 1 a len c xs) H H') (hy : ev s y = some (.string b)) (ht : P.underlying t = some (.slice e)) (hu : P.underlying u = some .string) (hi : (P.info? e).map (fun i => (i.zero, i.size, i.bytes)) = some (some (.int .u8 0), 1, 1))
    (hb : len + b.size ≤ 140737488355328) (h1d : o.dst = some d) (h2d : Nat.blt d n = true)
    (h : ∀ a' c', SL P G n ops Q rest ((d, .slice a' (len + b.size) c') :: s) (.own e 1 a' (len + b.size) c' (xs ++ octs (nums b)) :: H')) : SL P G n ops Q (o :: rest) s H := fun act w ha hw => by
  have hd := okd (n := n) h1d h2d
  simp only [← updd h1d] at h
  replace hg : Want ops o s := .inl hg
  have hwp := hw.pick hp
  have hown : w.ownsRow G.B e 1 (.slice a len c) len xs := hwp.ok _ List.mem_cons_self
  obtain ⟨i0, hi0, hz0, hz1, hz2⟩ := info_parts hi
  have fin : ∀ a' c' w', w'.ownsRow G.B e 1 (.slice a' (len + b.size) c') (len + b.size) (xs ++ octs (nums b)) → w.grownBy w' (Value.slice a len c).ownBlock → (∀ k, (Value.slice a' (len + b.size) c').ownBlock = some k → some k = (Value.slice a len c).ownBlock ∨ w.heap.size ≤ k) → wpList P ops (lift G n Q) rest (act.put o.dst (.slice a' (len + b.size) c')) w' := by
    intro a' c' w' ho' hgr hk
    have hw' : Holds G H' w' := hwp.drop.stepped _ hgr (fun k hk => (World.ownsRow.lt hown k hk).1) (fun x hx k hk e => (List.pairwise_cons.1 hwp.apart).1 x hx k e hk)
    refine h a' c' _ _ (ha.put _ _ hd) ⟨hw'.below, hw'.base, fun x hx => ?_, List.pairwise_cons.2 ⟨fun y hy k hky => ?_, hw'.apart⟩⟩
    · rcases List.mem_cons.1 hx with rfl | hx
      · exact ho'
      · exact hw'.ok x hx
    · intro hyk
      rcases hk k hky with e1 | e1
      · exact (List.pairwise_cons.1 hwp.apart).1 y hy k e1.symm hyk
      · have := (Ent.ok_lt (hwp.ok y (List.mem_cons_of_mem _ hy)) hyk).2
        omega
  refine wpList_step fun K hK => ?_
  rw [if_pos (hg.wanted ha)]
  unfold Oper.wp execOp
  simp only [ho, resolve, invoke, builtin, Sem.run_bind, Sem.run_pure, Result.andThen_ok, List.map_toArray, List.map_cons, List.map_nil, ha.ev hx, ha.ev hy]
  obtain ⟨a', c', w', hrun, h2, h3, h4⟩ := run_append_anyS (ty := o.type) ht hu hi0 hz0 hz1 hz2 hown b hb hwp.base
  simp only [hrun, Result.andThen_ok]
  rw [strCells_octs] at h2
  exact hK _ _ (fin a' c' w' h2 h3 h4)
theorem c_appendS {P : Program} {G : Ctx} {n : Nat} {ops : Array Oper} {Q : Post} {s : Fm} {H : List Ent} {o : Oper} {rest : List Oper} {x y : Operand} {t u e : TypeId} {a : Option Addr} {len c d : Nat} {xs : List Value} {b : ByteArray} {H' : List Ent} (hg : o.guard = none) (ho : o.op = .call { callee := .builtin .append, args := #[x, y], argTypes := #[t, u] })
    [hT : SliceT P t e 1 1] [hu : StrT P u] (hi : (P.info? e).map (fun i => (i.zero, i.size, i.bytes)) = some (some (.int .u8 0), 1, 1)) (hx : ev s x = some (.slice a len c)) [hp : PickOwn H a e 1 len c xs H'] (hy : ev s y = some (.string b)) (hb : len + b.size ≤ 140737488355328) (h1d : o.dst = some d) (h2d : Nat.blt d n = true)
    (h : ∀ a' c', SL P G n ops Q rest ((d, .slice a' (len + b.size) c') :: s) (.own e 1 a' (len + b.size) c' (xs ++ octs (nums b)) :: H')) : SL P G n ops Q (o :: rest) s H :=
  sl_appendS hg ho hx hp.here hy hT.here.1 hu.here hi hb h1d h2d h
end Go.Sx
