/- More rules: pieces of rows that are held, read and written by their place. -/
import Derived.Test.YtgcnfcgnkfkpeaaSx22
namespace Go.Sx
open Go Go.RowKit Go.Fw
theorem at_off {w : World} {b : Nat} {xs : List Value} (h : At w (some ⟨b, 0, none⟩) xs) (off : Nat) (ho : off < xs.length) : At w (some ⟨b, off, none⟩) (xs.drop off) := by
  rcases h with h | ⟨b', o, ha, hb, hc⟩
  · subst h; simp at ho
  · obtain ⟨rfl, rfl⟩ : b = b' ∧ o = 0 := by
      simp only [Option.some.injEq, Addr.mk.injEq, and_true] at ha
      exact ⟨ha.1, ha.2.symm⟩
    refine .inr ⟨b, off, rfl, hb, fun i hi => ?_⟩
    rw [List.length_drop] at hi
    have := hc (off + i) (by omega)
    rw [Nat.zero_add] at this
    rw [this, List.getElem?_drop]
theorem at_pre {w : World} {a : Option Addr} {xs ys : List Value} (h : At w a (xs ++ ys)) : At w a xs := by
  rcases h with h | ⟨b, o, ha, hb, hc⟩
  · exact .inl (List.append_eq_nil_iff.1 h).1
  · refine .inr ⟨b, o, ha, hb, fun i hi => ?_⟩
    rw [hc i (by rw [List.length_append]; omega), List.getElem?_append_left hi]
section
variable {P : Program} {G : Ctx} {n : Nat} {ops : Array Oper} {Q : Post} {s : Fm} {H : List Ent} {o : Oper} {rest : List Oper}
theorem rd_off {e sz len c b : Nat} {xs ys zs us : List Value} (off : Nat) (h0 : off = xs.length) (h1 : 0 < ys.length) : RdC G (.own e sz (some ⟨b, 0, none⟩) len c (xs ++ ys ++ zs) :: H) (some ⟨b, off, none⟩) (ys ++ zs) := ⟨fun w hw => by
  have h := (Rd.mem (G := G) (H := .own e sz (some ⟨b, 0, none⟩) len c (xs ++ ys ++ zs) :: H) List.mem_cons_self) w hw
  have h2 := at_off h off (by rw [List.length_append, List.length_append]; omega)
  rw [List.append_assoc, h0, List.drop_left] at h2
  rw [h0]
  exact h2⟩
theorem rd_pre {a : Option Addr} {xs ys : List Value} (h : RdC G H a (xs ++ ys)) : RdC G H a xs := ⟨fun w hw => at_pre (h.here w hw)⟩
/-- An element's place, where more may be read than the slice has. -/
theorem c_indexAddrL {t e sz bytes : Nat} {x y : Operand} {a : Option Addr} {len c : Nat} {k : IntKind} {i : Int} {xs : List Value} (ho : o.op = .indexAddr t x y) [h : SliceT P t e sz bytes] (hx : ev s x = some (.slice a len c)) (hy : ev s y = some (.int k i)) [hr : RdC G H a xs] (hl : len ≤ xs.length) (h0 : 0 ≤ i) (h1 : i < (len : Int)) : Yields P G n s H o (elemPtr a (i.toNat * sz)) := by
  obtain ⟨hu, hsz, -, -⟩ := h.here
  exact y_indexAddr ho hx hy hu h.size hr.here hl h0 h1
theorem elemPtr_off (b off k : Nat) : elemPtr (some ⟨b, off, none⟩) k = elemPtr (some ⟨b, 0, none⟩) (off + k) := by
  simp only [elemPtr, Option.map_some, Addr.add_mid, Nat.zero_add]
/-- Several cells, through a piece, into a row that the call holds. -/
theorem c_storeesO {t e sz sz2 len c b off k : Nat} {x y : Operand} {xs vs : List Value} {H' : List Ent} (hg : o.guard = none) (ho : o.op = .store t x y) [h : Ag P t sz2] (hx : ev s x = some (elemPtr (some ⟨b, off, none⟩) k)) (hy : ev s y = some (.agg vs.toArray)) [hp : PickOwn H (some ⟨b, 0, none⟩) e sz len c xs H'] (h1 : vs.all (·.oneCell') = true)
    (hv : vs.length = sz2) (h0 : 0 < sz2) (hl : off + k + sz2 ≤ xs.length) (hd : o.dst = none) (hk : SL P G n ops Q rest s (.own e sz (some ⟨b, 0, none⟩) len c (over xs (off + k) vs) :: H')) : SL P G n ops Q (o :: rest) s H := by
  rw [elemPtr_off] at hx
  exact c_storees hg ho hx hy h1 hv h0 hl hd hk
end
end Go.Sx
