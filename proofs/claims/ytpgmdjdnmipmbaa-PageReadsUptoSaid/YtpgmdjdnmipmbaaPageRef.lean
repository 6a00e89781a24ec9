/- farref.PageRunes: all runes of a page, written place by place. -/
import Derived.Test.YtpgmdjdnmipmbaaPage2
import Derived.Deep.MidRow
namespace Go.Proofs.Ytpgmdjdnmipmbaa
open Go.RowKit Go.Fw

def pageF0 (p : Int) (b : Nat) : Int := if 127 < b ∧ ¬ p = 2 then 65533 else b
def pageL0 (p : Int) : List Int := (List.range 256).map (pageF0 p)
theorem pageL0_len (p : Int) : (pageL0 p).length = 256 := by simp [pageL0]
theorem pageL0_get (p : Int) (b : Nat) (hb : b < 256) : (pageL0 p).getD b 0 = pageF0 p b := by
  unfold pageL0
  rw [List.getD_eq_getElem?_getD, List.getElem?_map, List.getElem?_range hb]
  rfl
theorem page1 : pageL 1 = pageL0 1 := by decide +kernel
theorem page2 : pageL 2 = pageL0 2 := by decide +kernel
theorem page4 : pageL 4 = (pageL0 4).set 35 163 := by decide +kernel
theorem page3 : ints (pageL 3) = splice (ints (pageL0 3)) 95 (ints linesL) := by kernel_rfl

theorem built_lines_slice : builtSlice Try.prog 3 32 linesP = some linesC := by kernel_rfl
theorem made256 : (madeCells #[Value.int .i64 0] 256).toList = ints (List.replicate 256 0) := by
  rw [toList_madeCells_one, ints, List.map_replicate]

set_option maxRecDepth 100000 in
set_option maxHeartbeats 1000000 in
theorem pageRunes_blk (p : Int) (w : World) (hp : 1 ≤ p ∧ p ≤ 4) :
    Calls Try.prog 89 #[.int .i64 p] w fun e w' => e = .returned (.slice (some ⟨w.heap.size, 0, none⟩) 256 256) ∧ w'.heap[w.heap.size]? = some (.cells (ints (pageL p)).toArray 3 (0, 0)) ∧ Below w.heap.size w w' := by
  obtain ⟨i0, hi, hz0, hz1, hz2⟩ := info_parts i64i
  go_enter Try.func89, Try.ntmps89
  go_wp2_with (first | (go_at_call 21; refine (between_t _ _ _ _ (by omega)).mono ?_; rintro e w' ⟨rfl, rfl⟩) | (at_make; refine wpList_make_full _ rfl _ _ 61 rfl w.heap.size 3 i0 (.int .i64 0) 1 Try.underlying61 hi hz0 hz1 .i64 .i64 _ _ 256 rfl rfl rfl rfl ?c1 ?c2 ?c3 ?_))
  case c1 => rw [hz2]; omega
  case c2 => unfold maxLen; omega
  case c3 => exact Nat.le_refl _
  intro w1 hown hgr
  have hbl0 : Below w.heap.size w w1 := (Below.refl _ w).grown hgr (Nat.le_refl _) (fun _ h => by cases h)
  obtain ⟨cur, hcur, hrow0⟩ : ∃ cs, cs = ints (fillAt (pageL0 p) 0) ∧ w1.heap[w.heap.size]? = some (.cells cs.toArray 3 (0, 0)) := by
    obtain ⟨hl, h | ⟨g, cap, cur, hv, hg, hh, hn, hm, hs, ht⟩⟩ := hown
    · cases h.1
    · simp only [Value.slice.injEq, Option.some.injEq, Addr.mk.injEq, and_true] at hv
      obtain ⟨rfl, _, rfl⟩ := hv
      refine ⟨cur.toList, ?_, by simpa using hh⟩
      have e : cur.toList = cur.toList.take (256 * 1) := by rw [List.take_of_length_le (by simp; omega)]
      rw [e, ht, fillAt_zero, pageL0_len]
      exact made256
  subst hcur
  clear hown hgr
  have hlt0 := row_lt hrow0
  go_wp2_with fail
  go_loopw [11] (fun i wr => ∃ k : Nat, k ≤ 256 ∧ i = .int .i64 k ∧ wr.heap[w.heap.size]? = some (.cells (ints (fillAt (pageL0 p) k)).toArray 3 (0, 0)) ∧ Below w.heap.size w wr) (fun i _ => 256 - (intOf i).toNat)
  case atStart => exact ⟨0, Nat.zero_le _, rfl, hrow0, hbl0⟩
  case round =>
    clear hrow0 hbl0
    obtain ⟨k, hk, rfl, hrow, hbl⟩ := hrel
    by_cases hlt : k < 256
    · have hget := fillAt_get (pageL0 p) k (by rw [pageL0_len]; exact hlt)
      have hset := fillAt_set (pageL0 p) k (by rw [pageL0_len]; exact hlt)
      rw [pageL0_get p k hlt] at hset
      have hc : wr.cell? ⟨w.heap.size, k, none⟩ = some (.int .i64 0) := (row_cell hrow).trans hget
      have hf : wr.frozen? ⟨w.heap.size, k, none⟩ = false := row_free hrow
      have hrow1 := row_set (i := k) (.int .i64 k) hrow
      have hl := row_lt hrow
      by_cases h127 : 127 < k
      · by_cases h2 : p = 2
        · have e : pageF0 p k = k := by unfold pageF0; rw [if_neg (fun h => h.2 h2)]
          have hb2 : (p != 2) = false := by rw [h2]; rfl
          clear h2
          rw [e] at hset
          rw [hset] at hrow1
          have Hrow := Lib.hid hrow1
          clear hset hget hrow hrow1 e
          go_wp2_with fail
          go_roundw
          case rel => exact ⟨k + 1, by omega, by go_num, Hrow.out, hbl.setCell (Nat.le_refl _) _⟩
          case measure => simp [intOf]; omega
        · have e : pageF0 p k = 65533 := by unfold pageF0; rw [if_pos ⟨h127, h2⟩]
          have hb2 : (p != 2) = true := by simpa using h2
          clear h2
          rw [e] at hset
          have hc1 : (wr.setCell ⟨w.heap.size, k, none⟩ (.int .i64 k)).cell? ⟨w.heap.size, k, none⟩ = some (.int .i64 k) := by
            rw [row_cell hrow1, List.getElem?_set_self (by rcases Nat.lt_or_ge k (ints (fillAt (pageL0 p) k)).length with h | h; exact h; rw [List.getElem?_eq_none h] at hget; cases hget)]
          have hf1 : (wr.setCell ⟨w.heap.size, k, none⟩ (.int .i64 k)).frozen? ⟨w.heap.size, k, none⟩ = false := row_free hrow1
          have hrow2 := row_set (i := k) (.int .i64 65533) hrow1
          rw [set_twice, hset] at hrow2
          have Hrow := Lib.hid hrow2
          clear hset hget hrow hrow1 hrow2 e
          go_wp2_with fail
          go_roundw
          case rel => exact ⟨k + 1, by omega, by go_num, Hrow.out, (hbl.setCell (Nat.le_refl _) _).setCell (Nat.le_refl _) _⟩
          case measure => simp [intOf]; omega
      · have e : pageF0 p k = k := by unfold pageF0; rw [if_neg (fun h => h127 h.1)]
        rw [e] at hset
        rw [hset] at hrow1
        have Hrow := Lib.hid hrow1
        clear hset hget hrow hrow1 e
        go_wp2_with fail
        go_roundw
        case rel => exact ⟨k + 1, by omega, by go_num, Hrow.out, hbl.setCell (Nat.le_refl _) _⟩
        case measure => simp [intOf]; omega
    · obtain rfl : k = 256 := by omega
      rw [show fillAt (pageL0 p) 256 = pageL0 p from by rw [← pageL0_len p]; exact fillAt_all _] at hrow
      rcases (show p = 1 ∨ p = 2 ∨ p = 3 ∨ p = 4 by omega) with rfl | rfl | rfl | rfl
      · have Hrow := Lib.hid hrow
        clear hrow
        go_wp2_with fail
        go_ret
        exact ⟨rfl, by rw [page1]; exact Hrow.out, hbl⟩
      · have Hrow := Lib.hid hrow
        clear hrow
        go_wp2_with fail
        go_ret
        exact ⟨rfl, by rw [page2]; exact Hrow.out, hbl⟩
      · have Hrow := Lib.hid hrow
        clear hrow
        have hrow1 : Hid ((wr.alloc (.cells linesC 3)).heap[w.heap.size]? = some (.cells (ints (pageL0 3)).toArray 3 (0, 0))) := Lib.hid (by
          have hb := (Below.refl wr.heap.size wr).alloc (Nat.le_refl _) (.cells linesC 3)
          exact hb.row (row_lt Hrow.out) Hrow.out)
        have hsrc : Hid (∀ j v, (ints linesL)[j]? = some v → (wr.alloc (.cells linesC 3)).cell? ((⟨wr.heap.size, 0, none⟩ : Addr).add j) = some v) := Lib.hid (by
          intro j v hj
          have hA := At.new wr linesC 3
          rcases hA with h | ⟨b, o, ha, _, hc⟩
          · exact absurd (congrArg List.length h) (by decide)
          · cases ha
            have hj' : j < linesC.toList.length := by
              rcases Nat.lt_or_ge j (ints linesL).length with h | h
              · exact h
              · rw [List.getElem?_eq_none h] at hj; cases hj
            rw [Addr.add_mid, hc j hj']
            exact hj)
        have hblA : Hid (Below w.heap.size w (wr.alloc (.cells linesC 3))) := Lib.hid (hbl.alloc (Nat.le_of_lt (row_lt Hrow.out)) _)
        obtain ⟨C, hC⟩ : ∃ C, C = linesC := ⟨_, rfl⟩
        have HB := Lib.hid built_lines_slice
        rw [← hC] at hrow1 hsrc hblA HB
        clear hC
        have hlen : (ints linesL).length = Nat.min 32 161 := by rfl
        go_wp2_with (first | ((with_reducible refine fw_buildSlice rfl 61 3 32 _ rfl linesP C ?_ Try.underlying61 HB.out ?_); (focus rfl)) | (with_reducible refine wpList_copy_splice rfl (.tmp 35) (.tmp 36) 61 61 rfl 3 Try.underlying61 rfl (some ⟨w.heap.size, 95, none⟩) (some ⟨wr.heap.size, 0, none⟩) 161 161 32 32 ?hd ?hs w.heap.size 95 (ints (pageL0 3)) 3 hrow1.out (ints linesL) hlen (fun _ => ⟨rfl, _, rfl, hsrc.out⟩) ?fit ?one w.heap.size w hblA.out (Nat.le_refl _) ?_))
        skip
        case fit => rw [ints, ints, List.length_map, List.length_map, pageL0_len]; decide
        case one => intro v hv; obtain ⟨x, _, rfl⟩ := List.mem_map.1 hv; rfl
        intro w2 Hg hb2
        have Hb2 := Lib.hid hb2
        clear hb2 hrow1 hsrc hblA HB
        go_wp2_with fail
        go_ret
        exact ⟨rfl, by rw [page3]; exact Hg.out, Hb2.out⟩
      · have hc : wr.cell? ⟨w.heap.size, 35, none⟩ = some (.int .i64 35) := by rw [row_cell hrow]; kernel_rfl
        have hf : wr.frozen? ⟨w.heap.size, 35, none⟩ = false := row_free hrow
        have hrow2 := row_set (i := 35) (.int .i64 163) hrow
        have Hrow := Lib.hid hrow2
        clear hrow hrow2
        go_wp2_with fail
        go_ret
        refine ⟨rfl, ?_, hbl.setCell (Nat.le_refl _) _⟩
        rw [page4]
        have h := Hrow.out
        simpa [ints, List.map_set] using h
theorem pageRunes_yes (p : Int) (w : World) (hp : 1 ≤ p ∧ p ≤ 4) :
    Calls Try.prog 89 #[.int .i64 p] w fun e w' => ∃ g, e = .returned (.slice (some ⟨g, 0, none⟩) 256 256) ∧ At w' (some ⟨g, 0, none⟩) (ints (pageL p)) ∧ Below w.heap.size w w' :=
  (pageRunes_blk p w hp).mono fun _ _ ⟨h1, h2, h3⟩ => ⟨_, h1, row_at h2, h3⟩

set_option maxRecDepth 100000 in
theorem pageRunes_no (p : Int) (w : World) (hp : ¬ (1 ≤ p ∧ p ≤ 4)) :
    Calls Try.prog 89 #[.int .i64 p] w fun e w' => e = .returned (.slice none 0 0) ∧ w = w' := by
  go_enter Try.func89, Try.ntmps89
  go_wp2_with (go_at_call 21; refine (between_f _ _ _ _ (by omega)).mono ?_; rintro e w' ⟨rfl, rfl⟩)
  go_ret
  exact ⟨rfl, rfl⟩

set_option maxRecDepth 100000 in
theorem refByte_yes (p r : Int) (w : World) (hp : 1 ≤ p ∧ p ≤ 4) :
    Calls Try.prog 91 #[.int .i64 p, .int .i64 r] w fun e w' => e = .returned (.int .i64 (idxIntsAt (pageM p) r)) ∧ Below w.heap.size w w' := by
  have hR := fun w => pageRunes_yes p w hp
  by_cases h2 : p = 2
  · have hb2 : (p != 2) = false := by rw [h2]; rfl
    have hM : pageM p = pageL p := by unfold pageM mostOf; rw [if_pos h2]; exact List.take_of_length_le (by rw [pageL_len]; omega)
    rw [hM]
    have hl := pageL_len p
    generalize pageL p = L at *
    clear h2 hM hp
    go_enter Try.func91, Try.ntmps91
    go_wp2_with fail
    refine (hR _).mono ?_
    rintro e w1 ⟨g, rfl, hA, hb1⟩
    go_wp2_with fail
    refine (idxInts_any L r _ 256 _ _ hl.symm (by rw [hl]; decide) hA).mono ?_
    rintro e w2 ⟨rfl, hb2⟩
    have hb2 := ext_trans hb1 hb2
    clear hb1
    go_wp2_with fail
    go_ret
    exact ⟨rfl, hb2⟩
  · have hb2 : (p != 2) = true := by simpa using h2
    have hM : pageM p = (pageL p).take 128 := by unfold pageM mostOf; rw [if_neg h2]
    rw [hM]
    have hl : ((pageL p).take 128).length = 128 := by rw [List.length_take, pageL_len]; decide
    have hR : ∀ w, Calls Try.prog 89 #[.int .i64 p] w fun e w' => ∃ g, e = .returned (.slice (some ⟨g, 0, none⟩) 256 256) ∧ At w' (some ⟨g, 0, none⟩) (ints ((pageL p).take 128)) ∧ Below w.heap.size w w' := fun w => (hR w).mono fun e w' ⟨g, he, hA, hB⟩ => ⟨g, he, by have h := at_take hA 128; unfold ints at h ⊢; rw [← List.map_take] at h; exact h, hB⟩
    generalize (pageL p).take 128 = L at *
    clear h2 hM hp
    go_enter Try.func91, Try.ntmps91
    go_wp2_with fail
    refine (hR _).mono ?_
    rintro e w1 ⟨g, rfl, hA, hb1⟩
    go_wp2_with fail
    refine (idxInts_any L r _ 128 _ _ hl.symm (by rw [hl]; decide) hA).mono ?_
    rintro e w2 ⟨rfl, hb2⟩
    have hb2 := ext_trans hb1 hb2
    clear hb1
    go_wp2_with fail
    go_ret
    exact ⟨rfl, hb2⟩

end Go.Proofs.Ytpgmdjdnmipmbaa
