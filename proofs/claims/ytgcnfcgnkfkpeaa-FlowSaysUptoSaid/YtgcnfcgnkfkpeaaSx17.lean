/- More rules: copy into a row that is held; pieces of such a row by their place. -/
import Derived.Test.YtgcnfcgnkfkpeaaSx16
import Derived.Laws.CopyOwn
namespace Go.Sx
open Go Go.RowKit Go.Fw
section
variable {P : Program} {G : Ctx} {n : Nat} {ops : Array Oper} {Q : Post} {s : Fm} {H : List Ent} {o : Oper} {rest : List Oper}
/-- A piece of a row that is held, by its place. -/
theorem y_sliceAt {t e sz bytes : Nat} {x : Operand} {lo hi : Option Operand} {b len c : Nat} {l h : Int} (ho : o.op = .slice t x lo hi none) [hT : SliceT P t e sz bytes] (hx : ev s x = some (.slice (some ⟨b, 0, none⟩) len c)) (hl : bnd s 0 lo = some l) (hh : bnd s len hi = some h) (h0 : 0 ≤ l) (h1 : l ≤ h) (h2 : h ≤ c) (hlt : l < c) : Yields P G n s H o (.slice (some ⟨b, l.toNat * sz, none⟩) (h.toNat - l.toNat) (c - l.toNat)) := fun act w ha _ => by
  obtain ⟨hu, hsz, -, -⟩ := hT.here
  have hS := hT.size
  unfold execOp; rw [ho]; simp only [ha.ev hx]
  refine run_value ?_
  have hb := run_bounds (P := P) (isSl := true) (w := w) (cap := c) ha hl hh h0 h1 h2
  cases hq : P.info? e with
  | none => simp [hq] at hS
  | some inf =>
    have hs : inf.size = sz := by simpa [hq] using hS
    have hz : (sizeOf e).run P w = .ok sz w := by simp [sizeOf, typeInfo, program, Sem.run, hq, hs]
    have hne : ¬ c = l.toNat := by omega
    simp only [Instr.sliceAt, Sem.run_bind, run_underlying hu, Result.andThen_ok, Instr.slice, Option.map_none]
    simp [hb, hz, Sem.run, hne, Addr.add_mid]
/-- The beginning of a row that is held. -/
theorem y_slice0 {t e sz bytes : Nat} {x : Operand} {hi : Option Operand} {b len c : Nat} {h : Int} (ho : o.op = .slice t x none hi none) [hT : SliceT P t e sz bytes] (hx : ev s x = some (.slice (some ⟨b, 0, none⟩) len c)) (hh : bnd s len hi = some h) (h1 : 0 ≤ h) (h2 : h ≤ c) : Yields P G n s H o (.slice (some ⟨b, 0, none⟩) h.toNat c) := fun act w ha _ => by
  obtain ⟨hu, hsz, -, -⟩ := hT.here
  have hS := hT.size
  unfold execOp; rw [ho]; simp only [ha.ev hx]
  refine run_value ?_
  have hb := run_bounds (P := P) (isSl := true) (w := w) (cap := c) (lo := none) ha rfl hh (by omega : (0 : Int) ≤ ((0 : Nat) : Int)) (by omega) h2
  cases hq : P.info? e with
  | none => simp [hq] at hS
  | some inf =>
    have hs : inf.size = sz := by simpa [hq] using hS
    have hz : (sizeOf e).run P w = .ok sz w := by simp [sizeOf, typeInfo, program, Sem.run, hq, hs]
    simp only [Option.map_none] at hb
    simp only [Instr.sliceAt, Sem.run_bind, run_underlying hu, Result.andThen_ok, Instr.slice, Option.map_none]
    simp [hb, hz, Sem.run, Addr.add_mid]
/-- copy, into a row that is held. -/
theorem c_copy {x y : Operand} {dT sT e bytes dl dc sl sc len c b off m d : Nat} {a2 : Option Addr} {xs ys : List Value} {H' : List Ent} (hg : o.guard = none) (ho : o.op = .call { callee := .builtin .copy, args := #[x, y], argTypes := #[dT, sT] }) [hT : SliceT P dT e 1 bytes] (hx : ev s x = some (.slice (some ⟨b, off, none⟩) dl dc)) (hy : ev s y = some (.slice a2 sl sc)) [hp : PickOwn H (some ⟨b, 0, none⟩) e 1 len c xs H'] [hr : RdC G H a2 ys]
    (hm : m = min sl dl) (hys : m ≤ ys.length) (hfit : off + m ≤ len) (h1 : ∀ v ∈ ys.take m, v.oneCell' = true) (h1d : o.dst = some d) (h2d : Nat.blt d n = true)
    (hk : SL P G n ops Q rest ((d, .int .i64 m) :: s) (.own e 1 (some ⟨b, 0, none⟩) len c (xs.take off ++ ys.take m ++ xs.drop (off + m)) :: H')) : SL P G n ops Q (o :: rest) s H := by
  have hd := okd (n := n) h1d h2d
  simp only [← updd h1d] at hk
  refine sl_op (.inl hg) fun act w ha hw K hK => ?_
  have hr' := hr.here w hw
  have hw := hw.pick hp.here
  have hown : w.ownsRow G.B e 1 (.slice (some ⟨b, 0, none⟩) len c) len xs := hw.ok _ List.mem_cons_self
  have hsz := hT.size
  have hu := hT.here.1
  unfold Oper.wp execOp
  simp only [ho, resolve, invoke, builtin, Sem.run_bind, Sem.run_pure, Result.andThen_ok, List.map_toArray, List.map_cons, List.map_nil, ha.ev hx, ha.ev hy]
  rcases Nat.eq_zero_or_pos m with h0 | h0
  · have hrun := run_copy_none (P := P) w dT sT o.type e (some ⟨b, off, none⟩) a2 dl dc sl sc hu hsz (by rw [← h0]; exact hm.symm)
    simp only [hrun, Result.andThen_ok]
    subst h0
    have e1 : xs.take off ++ ys.take 0 ++ xs.drop (off + 0) = xs := by simp
    rw [e1] at hk
    exact hK _ _ (hk _ _ (ha.put _ _ hd) hw)
  · obtain ⟨hlen, ⟨hv, hz⟩ | ⟨g, cap, cur, hv, hB, hh, hn, hmx, hs, ht⟩⟩ := hown
    · omega
    · obtain ⟨rfl, rfl⟩ : b = g ∧ c = cap := by
        simp only [Value.slice.injEq, Option.some.injEq, Addr.mk.injEq, and_true, true_and] at hv
        exact hv
      obtain ⟨b2, off2, rfl, hc2⟩ := At.someAt hr' (by omega)
      have hcl : (ys.take m).length = m := by rw [List.length_take]; omega
      have hrun := run_copy_row (P := P) w dT sT o.type e b off dl dc ⟨b2, off2, none⟩ sl sc cur e (ys.take m) hu hsz hh (by rw [hcl]; exact hm) (fun j v hj => by
        have hj' : j < m := by
          have := (List.getElem?_eq_some_iff.1 hj).1
          rw [hcl] at this
          exact this
        rw [Addr.add_mid, hc2 j (by omega)]
        rw [List.getElem?_take_of_lt hj'] at hj
        exact hj) (by rw [hcl]; omega) h1
      simp only [hrun, Result.andThen_ok, hcl]
      have hxl : xs.length = len := by rw [hlen, Nat.mul_one]
      have hcur : xs = cur.toList.take len := by rw [← ht, Nat.mul_one]
      have e2 : (cur.toList.take off ++ ys.take m ++ cur.toList.drop (off + m)).take (len * 1) = xs.take off ++ ys.take m ++ xs.drop (off + m) := by
        rw [Nat.mul_one, hcur, List.take_take, Nat.min_eq_left (by omega), List.drop_take]
        have h3 : (cur.toList.take off).length = off := by rw [List.length_take]; simp; omega
        rw [List.take_append, List.take_of_length_le (by rw [List.length_append, h3, hcl]; omega)]
        congr 2
        rw [List.length_append, h3, hcl]
      have hw' : Holds G (.own e 1 (some ⟨b, 0, none⟩) len c (xs.take off ++ ys.take m ++ xs.drop (off + m)) :: H') (w.setRow b (cur.toList.take off ++ ys.take m ++ cur.toList.drop (off + m)).toArray) := by
        obtain ⟨hap, hapH⟩ := List.pairwise_cons.1 hw.apart
        refine ⟨below_setRow hw.below hB _, by simpa using hw.base, fun z hz => ?_, List.pairwise_cons.2 ⟨fun y hy k hk => hap y hy k hk, hapH⟩⟩
        rcases List.mem_cons.1 hz with rfl | hz
        · refine ⟨?_, .inr ⟨b, c, (cur.toList.take off ++ ys.take m ++ cur.toList.drop (off + m)).toArray, rfl, hB, setRow_heap w b _ _ e (0, 0) hh, hn, hmx, ?_, by rw [List.toList_toArray]; exact e2⟩⟩
          · rw [List.length_append, List.length_append, List.length_take, List.length_drop, hcl]
            omega
          · rw [List.size_toArray, List.length_append, List.length_append, List.length_take, List.length_drop, hcl, Array.length_toList]
            omega
        · exact Ent.ok_of (hw.ok z (List.mem_cons_of_mem _ hz)) fun j hj => setRow_other w b j _ (fun e => hap z hz b rfl (e ▸ hj))
      exact hK _ _ (hk _ _ (ha.put _ _ hd) hw')
variable {K : Value → Prop} {x y : Operand} {t : TypeId}
/-- The lower half of a small number is itself. -/
theorem u64_and32 (p : Int) (h0 : 0 ≤ p) (h1 : p < 4294967296) : bits .and .u64 p 4294967295 = p := by
  obtain ⟨m, rfl⟩ := Int.eq_ofNat_of_zero_le h0
  have hm : (BitVec.ofInt 64 (m : Int)).toNat = m := ofInt_u64 m (by omega)
  have hn : (BitVec.ofInt 64 ((4294967295 : Nat) : Int)).toNat = 4294967295 := ofInt_u64 4294967295 (by omega)
  unfold bits
  show IntKind.u64.wrap (((BitVec.ofInt 64 (m : Int)) &&& (BitVec.ofInt 64 ((4294967295 : Nat) : Int))).toNat : Int) = _
  rw [BitVec.toNat_and, hm, hn]
  have e : m &&& 4294967295 = m := by
    rw [show (4294967295 : Nat) = 2 ^ 32 - 1 from rfl, Nat.and_two_pow_sub_one_eq_mod]
    exact Nat.mod_eq_of_lt (by omega)
  rw [e]
  exact IntWalk.u64_in _ (by omega)
theorem st_and32 {p : Int} (h0 : 0 ≤ p) (h1 : p < 4294967296) : still P (do eqGuard .and t x y (.int .u64 p) (.int .u64 4294967295); binOp .and t (.int .u64 p) (.int .u64 4294967295)) = some (.int .u64 p) := by
  have h := u64_and32 p h0 h1
  rw [← h]
  conv => rhs; rw [h]
  conv => lhs; rw [h]
  show some (Value.int .u64 (bits .and .u64 p 4294967295)) = _
  rw [h]
theorem bb_and32 {p : Int} (h0 : 0 ≤ p) (h1 : p < 4294967296) (hk : K (.int .u64 p)) : BB P .and t x y (.int .u64 p) (.int .u64 4294967295) K := bb_of (st_and32 h0 h1) hk
end
end Go.Sx
