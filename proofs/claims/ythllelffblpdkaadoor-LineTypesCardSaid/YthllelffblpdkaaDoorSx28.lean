/- More rules: clear of a piece of a row that is held; a row that is held, shorter; contracts from runs. -/
import Derived.Test.YthllelffblpdkaaDoorSxB
namespace Go.Sx
open Go Go.RowKit Go.Fw
theorem sc_mk {P : Program} {G : Ctx} {f : FuncId} {args : List Value} {H : List Ent} {R : Value → List Ent → Prop} (hc : Sx.Callee P f) (h : ∀ w, Holds G H w → Calls P f args.toArray w fun e w' => ∃ v H', e = .returned v ∧ Holds G H' w' ∧ R v H') : SC P G f args H R := ⟨hc, h⟩
theorem run_clear_row {P : Program} (w : World) (t e ty g o m c : Nat) (z : Value) (cs : List Value) (ht : P.underlying t = some (.slice e)) (hz : still P (zeroValue e) = some z) (h1 : z.oneCell' = true) (hg : w.heap[g]? = some (.cells cs.toArray e (0, 0))) (hl : o + m ≤ cs.length) (hm : 0 < m) :
    (Builtin.clear_ #[t] ty #[.slice (some ⟨g, o, none⟩) m c]).run P w = .ok (.tuple #[]) (w.setRow g (over cs o (List.replicate m z)).toArray) := by
  have hzc0 : z.cells = #[z] := by cases z <;> first | rfl | cases h1
  have hv : ∀ w, (zeroValue e).run P w = .ok z w := fun w => still_run _ _ hz w
  have hzc : (Builtin.zeroCells z.cells m).toList = List.replicate m z := by
    rw [hzc0]
    simp [Builtin.zeroCells]
    apply List.ext_getElem
    · simp
    · intro i h1 h2
      simp [Nat.mod_one]
  have hst := run_storeCells_at P g o e (List.replicate m z) 0 cs.toArray w hg (by simpa using hl) (by intro v hv'; rw [List.eq_of_mem_replicate hv']; exact h1)
  simp only [Nat.add_zero] at hst
  obtain ⟨m, rfl⟩ : ∃ k, m = k + 1 := ⟨m - 1, by omega⟩
  simp [Builtin.clear_, run_underlying ht, hv, hzc, hst, over]
section
variable {P : Program} {G : Ctx} {n : Nat} {ops : Array Oper} {Q : Post} {s : Fm} {H : List Ent} {o : Oper} {rest : List Oper}
theorem c_clear {t e bytes b len c m c2 off : Nat} {x : Operand} {xs : List Value} {z : Value} {H' : List Ent} (hg : o.guard = none) (ho : o.op = .call { callee := .builtin .clear, args := #[x], argTypes := #[t] }) [hT : SliceT P t e 1 bytes] (hu1 : still P (zeroValue e) = some z) (hx : ev s x = some (.slice (some ⟨b, off, none⟩) m c2)) [hp : PickOwn H (some ⟨b, 0, none⟩) e 1 len c xs H']
    (hl : off + m ≤ xs.length) (hm : 0 < m) (h1 : z.oneCell' = true) (hd : o.dst = none) (hk : SL P G n ops Q rest s (.own e 1 (some ⟨b, 0, none⟩) len c (over xs off (List.replicate m z)) :: H')) : SL P G n ops Q (o :: rest) s H := by
  obtain ⟨hu, -, -, -⟩ := hT.here
  refine sl_op (.inl hg) fun act w ha hw K hK => ?_
  have hw := hw.pick hp.here
  have hown : w.ownsRow G.B e 1 (.slice (some ⟨b, 0, none⟩) len c) len xs := hw.ok _ List.mem_cons_self
  obtain ⟨hlen, ⟨hv, h0'⟩ | ⟨g, cap, cur, hv, hB, hh, hn, hmx, hs, ht⟩⟩ := id hown
  · subst h0'; rw [hlen] at hl; omega
  · obtain ⟨rfl, rfl⟩ : b = g ∧ c = cap := by simpa [Value.slice.injEq] using hv
    have hcl : off + m ≤ cur.toList.length := by
      have e : xs.length ≤ cur.toList.length := by rw [← ht, List.length_take]; exact Nat.min_le_right _ _
      omega
    have hrun := run_clear_row (P := P) w t e o.type b off m c2 z cur.toList hu hu1 h1 (by simpa using hh) hcl hm
    unfold Oper.wp execOp
    simp only [ho, resolve, invoke, Sem.run_bind, Sem.run_pure, Result.andThen_ok, builtin, List.map_toArray, List.map_cons, List.map_nil, ha.ev hx, hrun]
    obtain ⟨hap, hapH⟩ := List.pairwise_cons.1 hw.apart
    have hrl : (List.replicate m z).length = m := List.length_replicate
    have e2 : (over cur.toList off (List.replicate m z)).take (len * 1) = over xs off (List.replicate m z) := by
      have h4 : off + m ≤ len * 1 := by rw [← hlen]; exact hl
      unfold over
      rw [← ht, List.take_take, Nat.min_eq_left (by omega), List.drop_take]
      have h3 : (cur.toList.take off).length = off := by rw [List.length_take]; omega
      rw [List.take_append, List.take_of_length_le (by rw [List.length_append, h3, hrl]; omega)]
      congr 2
      rw [List.length_append, h3]
    have hw' : Holds G (.own e 1 (some ⟨b, 0, none⟩) len c (over xs off (List.replicate m z)) :: H') (w.setRow b (over cur.toList off (List.replicate m z)).toArray) := by
      refine ⟨below_setRow hw.below hB _, by simpa using hw.base, fun y hz => ?_, List.pairwise_cons.2 ⟨fun y hy k hk => hap y hy k hk, hapH⟩⟩
      rcases List.mem_cons.1 hz with rfl | hz
      · refine ⟨?_, .inr ⟨b, c, (over cur.toList off (List.replicate m z)).toArray, rfl, hB, setRow_heap w b _ _ e (0, 0) hh, hn, hmx, ?_, by rw [List.toList_toArray]; exact e2⟩⟩
        · rw [over_len (by rw [hrl]; exact hl)]; exact hlen
        · rw [List.size_toArray, over_len (by rw [hrl]; exact hcl), Array.length_toList]; exact hs
      · exact Ent.ok_of (hw.ok y (List.mem_cons_of_mem _ hz)) fun j hj => setRow_other w b j _ (fun e => hap y hz b rfl (e ▸ hj))
    exact hK _ _ (hk _ _ (by rw [hd]; exact ha) hw')
end
theorem bb_shl1V {P : Program} {K : Value → Prop} {x y : Operand} {t : TypeId} {k' : IntKind} {q D : Int} (hD : pw q.toNat = D) (h0 : 0 ≤ q) (h1 : q ≤ 63) (hk : K (.int .u64 D)) : BB P .shl t x y (.int .u64 1) (.int k' q) K := bb_shl1 h0 h1 (hD ▸ hk)
theorem bb_bitsV {P : Program} {K : Value → Prop} {x y : Operand} {t : TypeId} {op : BinOp} {k : IntKind} {p q D : Int} (hop : (match op with | .and | .or | .xor | .andNot => true | _ => false) = true) (hD : ibits op k p q = D) (hk : K (.int k D)) : BB P op t x y (.int k p) (.int k q) K := bb_bits hop (hD ▸ hk)
theorem c_storekV {P : Program} {G : Ctx} {n : Nat} {ops : Array Oper} {Q : Post} {s : Fm} {H : List Ent} {o : Oper} {rest : List Oper} {t t' : TypeId} {x y : Operand} {b off : Nat} {cs cs' : List Value} {v : Value} {H' : List Ent} (hg : o.guard = none) (ho : o.op = .store t x y) [h : Sc P t] (hx : ev s x = some (.pointer (some ⟨b, off, none⟩))) (hy : ev s y = some v) [hp : PickBlk H b t' cs H'] (h1 : v.oneCell' = true) (hs : cs.set off v = cs')
    (hl : off < cs.length) (hd : o.dst = none) (hk : SL P G n ops Q rest s (.blk b t' cs' :: H')) : SL P G n ops Q (o :: rest) s H := c_storek hg ho hx hy h1 hl hd (hs ▸ hk)
theorem bb_catV {P : Program} {K : Value → Prop} {x y : Operand} {t : TypeId} {a b r : ByteArray} (hr : a ++ b = r) (h : a.size + b.size ≤ 9223372036854775807) (hk : K (.string r)) : BB P .add t x y (.string a) (.string b) K := bb_cat h (hr ▸ hk)
/-- The beginning of a row that is held. -/
theorem Holds.shrink {G : Ctx} {H : List Ent} {e sz n c m b : Nat} {xs : List Value} {w : World} (h : Holds G (.own e sz (some ⟨b, 0, none⟩) n c xs :: H) w) (hm : m ≤ n) : Holds G (.own e sz (some ⟨b, 0, none⟩) m c (xs.take (m * sz)) :: H) w := by
  have hms : m * sz ≤ n * sz := Nat.mul_le_mul_right sz hm
  obtain ⟨hap, hapH⟩ := List.pairwise_cons.1 h.apart
  refine ⟨h.below, h.base, fun x hx => ?_, List.pairwise_cons.2 ⟨fun y hy k hk => hap y hy k hk, hapH⟩⟩
  rcases List.mem_cons.1 hx with rfl | hx
  · obtain ⟨hl, hv⟩ : w.ownsRow G.B e sz (.slice (some ⟨b, 0, none⟩) n c) n xs := h.ok _ List.mem_cons_self
    rcases hv with ⟨hv, -⟩ | ⟨g, cap, cur, hv, hB, hh, hn, hmx, hs, ht⟩
    · cases hv
    · obtain ⟨rfl, rfl⟩ : b = g ∧ c = cap := by simpa [Value.slice.injEq] using hv
      refine ⟨by rw [List.length_take, hl, Nat.min_eq_left hms], .inr ⟨b, c, cur, rfl, hB, hh, by omega, hmx, hs, ?_⟩⟩
      rw [← ht, List.take_take, Nat.min_eq_left hms]
  · exact h.ok x (List.mem_cons_of_mem _ hx)
end Go.Sx
