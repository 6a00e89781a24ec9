/- More rules: copy of elements of several cells. -/
import Derived.Test.YtgcnfcgnkfkpeaaSxB
namespace Go.Sx
open Go Go.RowKit Go.Fw
theorem run_copy_rows {P : Program} (w : World) (dT sT ty elem : TypeId) (sz g o dLen dCap : Nat) (a : Addr) (sLen sCap : Nat) (cur : Array Value) (t : TypeId) (cs : List Value)
    (hu : P.underlying dT = some (.slice elem)) (hs : (P.info? elem).map (·.size) = some sz)
    (hg : w.heap[g]? = some (.cells cur t (0, 0))) (hn : cs.length = Nat.min sLen dLen * sz)
    (hsrc : ∀ j v, cs[j]? = some v → w.cell? (a.add j) = some v) (hfit : o + cs.length ≤ cur.size) (h1 : ∀ v ∈ cs, v.oneCell' = true) :
    (Builtin.copy_ #[dT, sT] ty #[.slice (some ⟨g, o, none⟩) dLen dCap, .slice (some a) sLen sCap]).run P w =
      .ok (goInt (Nat.min sLen dLen)) (w.setRow g (cur.toList.take o ++ cs ++ cur.toList.drop (o + cs.length)).toArray) := by
  have hl := run_loadCells_list (P := P) w a cs hsrc
  have hst := run_storeCells_at P g o t cs 0 cur w hg (by simpa using hfit) h1
  cases hq : P.info? elem with
  | none => simp [hq] at hs
  | some i =>
    have hi : i.size = sz := by simpa [hq] using hs
    simp [Builtin.copy_, run_underlying hu, Builtin.lenOf, Builtin.firstCells, sizeOf, typeInfo, hq, hi, ← hn, hl, hst]
theorem run_copy_none' {P : Program} (w : World) (dT sT ty elem : TypeId) (sz : Nat) (d a : Option Addr) (dLen dCap sLen sCap : Nat) (hu : P.underlying dT = some (.slice elem)) (hs : (P.info? elem).map (·.size) = some sz) (hn : Nat.min sLen dLen = 0) :
    (Builtin.copy_ #[dT, sT] ty #[.slice d dLen dCap, .slice a sLen sCap]).run P w = .ok (goInt 0) w := by
  cases hq : P.info? elem with
  | none => simp [hq] at hs
  | some i =>
    have hl : ∀ (x : Addr), (loadCells x 0).run P w = .ok #[] w := fun x => by simpa using run_loadCells_list (P := P) w x [] (by simp)
    cases d <;> cases a <;> simp [Builtin.copy_, run_underlying hu, Builtin.lenOf, Builtin.firstCells, sizeOf, typeInfo, hq, hn, storeCells, hl]
section
variable {P : Program} {G : Ctx} {n : Nat} {ops : Array Oper} {Q : Post} {s : Fm} {H : List Ent} {o : Oper} {rest : List Oper}
/-- copy of elements of several cells, into a row that is held. -/
theorem c_copyA {x y : Operand} {dT sT e sz bytes dl dc sl sc len c b off m d : Nat} {a2 : Option Addr} {xs ys : List Value} {H' : List Ent} (hg : o.guard = none) (ho : o.op = .call { callee := .builtin .copy, args := #[x, y], argTypes := #[dT, sT] }) [hT : SliceT P dT e sz bytes] (hx : ev s x = some (.slice (some ⟨b, off, none⟩) dl dc)) (hy : ev s y = some (.slice a2 sl sc)) [hp : PickOwn H (some ⟨b, 0, none⟩) e sz len c xs H'] [hr : RdC G H a2 ys]
    (hm : m = min sl dl) (hys : m * sz ≤ ys.length) (hfit : off + m * sz ≤ len * sz) (h1 : (ys.take (m * sz)).all (·.oneCell') = true) (h1d : o.dst = some d) (h2d : Nat.blt d n = true)
    (hk : SL P G n ops Q rest ((d, .int .i64 m) :: s) (.own e sz (some ⟨b, 0, none⟩) len c (over xs off (ys.take (m * sz))) :: H')) : SL P G n ops Q (o :: rest) s H := by
  have hd := okd (n := n) h1d h2d
  simp only [← updd h1d] at hk
  refine sl_op (.inl hg) fun act w ha hw K hK => ?_
  have hr' := hr.here w hw
  have hw := hw.pick hp.here
  have hown : w.ownsRow G.B e sz (.slice (some ⟨b, 0, none⟩) len c) len xs := hw.ok _ List.mem_cons_self
  have hsz := hT.size
  have hu := hT.here.1
  have hsz0 := hT.here.2.1
  unfold Oper.wp execOp
  simp only [ho, resolve, invoke, builtin, Sem.run_bind, Sem.run_pure, Result.andThen_ok, List.map_toArray, List.map_cons, List.map_nil, ha.ev hx, ha.ev hy]
  rcases Nat.eq_zero_or_pos m with h0 | h0
  · have hrun := run_copy_none' (P := P) w dT sT o.type e sz (some ⟨b, off, none⟩) a2 dl dc sl sc hu hsz (by rw [← h0]; exact hm.symm)
    simp only [hrun, Result.andThen_ok]
    subst h0
    have e1 : over xs off (ys.take (0 * sz)) = xs := by simp [over]
    rw [e1] at hk
    exact hK _ _ (hk _ _ (ha.put _ _ hd) hw)
  · have hpos : 0 < m * sz := Nat.mul_pos h0 hsz0
    obtain ⟨hlen, ⟨hv, hz⟩ | ⟨g, cap, cur, hv, hB, hh, hn, hmx, hs, ht⟩⟩ := hown
    · subst hz
      rw [Nat.zero_mul] at hfit
      omega
    · obtain ⟨rfl, rfl⟩ : b = g ∧ c = cap := by
        simp only [Value.slice.injEq, Option.some.injEq, Addr.mk.injEq, and_true, true_and] at hv
        exact hv
      obtain ⟨b2, off2, rfl, hc2⟩ := At.someAt hr' (by omega)
      have hcl : (ys.take (m * sz)).length = m * sz := by rw [List.length_take]; omega
      have hcur2 : xs.length ≤ cur.toList.length := by rw [← ht, List.length_take]; exact Nat.min_le_right _ _
      have hmm : Nat.min sl dl = m := hm.symm
      have hrun := run_copy_rows (P := P) w dT sT o.type e sz b off dl dc ⟨b2, off2, none⟩ sl sc cur e (ys.take (m * sz)) hu hsz hh (by rw [hcl, hmm]) (fun j v hj => by
        have hj' : j < m * sz := by
          have := (List.getElem?_eq_some_iff.1 hj).1
          rw [hcl] at this
          exact this
        rw [Addr.add_mid, hc2 j (by omega)]
        rw [List.getElem?_take_of_lt hj'] at hj
        exact hj) (by rw [hcl, ← Array.length_toList]; omega) (fun v hv => List.all_eq_true.1 h1 v hv)
      rw [hmm] at hrun
      simp only [hrun, Result.andThen_ok]
      have hov : (cur.toList.take off ++ ys.take (m * sz) ++ cur.toList.drop (off + (ys.take (m * sz)).length)) = over cur.toList off (ys.take (m * sz)) := rfl
      rw [hov]
      have hl : off + (ys.take (m * sz)).length ≤ xs.length := by rw [hcl, hlen]; exact hfit
      have hcl2 : off + (ys.take (m * sz)).length ≤ cur.toList.length := by omega
      have e2 : (over cur.toList off (ys.take (m * sz))).take (len * sz) = over xs off (ys.take (m * sz)) := by
        have h4 : off + (ys.take (m * sz)).length ≤ len * sz := by rw [← hlen]; exact hl
        unfold over
        rw [← ht, List.take_take, Nat.min_eq_left (by omega), List.drop_take]
        have h3 : (cur.toList.take off).length = off := by rw [List.length_take]; omega
        rw [List.take_append, List.take_of_length_le (by rw [List.length_append, h3]; omega)]
        congr 2
        rw [List.length_append, h3]
      have hw' : Holds G (.own e sz (some ⟨b, 0, none⟩) len c (over xs off (ys.take (m * sz))) :: H') (w.setRow b (over cur.toList off (ys.take (m * sz))).toArray) := by
        obtain ⟨hap, hapH⟩ := List.pairwise_cons.1 hw.apart
        refine ⟨below_setRow hw.below hB _, by simpa using hw.base, fun z hz => ?_, List.pairwise_cons.2 ⟨fun y hy k hk => hap y hy k hk, hapH⟩⟩
        rcases List.mem_cons.1 hz with rfl | hz
        · refine ⟨?_, .inr ⟨b, c, (over cur.toList off (ys.take (m * sz))).toArray, rfl, hB, setRow_heap w b _ _ e (0, 0) hh, hn, hmx, ?_, by rw [List.toList_toArray]; exact e2⟩⟩
          · rw [over_len hl]; exact hlen
          · rw [List.size_toArray, over_len hcl2, Array.length_toList]; exact hs
        · exact Ent.ok_of (hw.ok z (List.mem_cons_of_mem _ hz)) fun j hj => setRow_other w b j _ (fun e => hap z hz b rfl (e ▸ hj))
      exact hK _ _ (hk _ _ (ha.put _ _ hd) hw')
end
end Go.Sx
