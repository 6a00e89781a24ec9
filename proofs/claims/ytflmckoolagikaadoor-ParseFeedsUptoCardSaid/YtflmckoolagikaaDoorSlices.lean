/- The small generic functions of the library's slices at the element types of this seat: what they compute, for every list. -/
import Derived.Test.YtflmckoolagikaaDoorRows
import Derived.Test.YtflmckoolagikaaDoorBase
import Derived.BigQuiet
import Derived.Deep.QuietTactic
namespace Go.Proofs.YtflmckoolagikaaDoor
open Go.RowKit Go.Fw


def eqIntsTo (xs ys : List Int) (k : Nat) : Prop := ∀ j, j < k → xs.getD j 0 = ys.getD j 0
set_option maxRecDepth 100000 in
set_option maxHeartbeats 400000 in
theorem eqInts_any (xs ys : List Int) (a1 a2 : Option Addr) (n1 n2 c1 c2 : Nat) (w : World) (hn1 : n1 = xs.length) (hn2 : n2 = ys.length) (hm1 : xs.length ≤ maxLen) (hm2 : ys.length ≤ maxLen)
    (h1 : At w a1 (ints xs)) (h2 : At w a2 (ints ys)) :
    Calls Tryd.prog 15 #[.slice a1 n1 c1, .slice a2 n2 c2] w fun e w' => e = .returned (.bool (decide (xs = ys))) ∧ Below w.heap.size w w' := by
  have Hn1 := Lib.hid hn1
  have Hn2 := Lib.hid hn2
  rw [← hn1] at hm1
  rw [← hn2] at hm2
  unfold maxLen at hm1 hm2
  clear hn1 hn2
  by_cases hne : n1 = n2
  · subst hne
    go_enter Tryd.func15, Tryd.ntmps15
    go_wp2
    go_loopw [13] (fun i wr => ∃ k : Nat, k ≤ n1 ∧ i = .int .i64 k ∧ eqIntsTo xs ys k ∧ Below w.heap.size w wr) (fun i _ => n1 - (intOf i).toNat)
    case atStart => exact ⟨0, Nat.zero_le _, rfl, fun j hj => by omega, Below.refl _ _⟩
    case round =>
      obtain ⟨k, hk, rfl, hto, hbl⟩ := hrel
      by_cases hlt : k < n1
      · obtain ⟨b, o, ha, hb, hc⟩ := h1.int (i := k) (by rw [← Hn1.out]; exact hlt)
        obtain ⟨b', o', ha', hb', hc'⟩ := h2.int (i := k) (by rw [← Hn2.out]; exact hlt)
        rw [ha, ha']
        have hx := (hbl.cell (p := ⟨b, o + k, none⟩) hb).trans (hc k (by rw [← Hn1.out]; exact hlt))
        have hy := (hbl.cell (p := ⟨b', o' + k, none⟩) hb').trans (hc' k (by rw [← Hn2.out]; exact hlt))
        clear hc hc' ha ha'
        obtain ⟨x, hX⟩ : ∃ x, x = xs.getD k 0 := ⟨_, rfl⟩
        obtain ⟨y, hY⟩ : ∃ y, y = ys.getD k 0 := ⟨_, rfl⟩
        rw [← hX] at hx
        rw [← hY] at hy
        have HX := Lib.hid hX
        have HY := Lib.hid hY
        clear hX hY
        go_wp2
        go_quiet (fail)
        by_cases he : x = y
        · subst he
          skip
          go_wp2
          go_roundw
          case rel =>
            refine ⟨k + 1, by omega, by go_num, fun j hj => ?_, hbl.drewN _⟩
            rcases Nat.lt_or_ge j k with h | h
            · exact hto j h
            · obtain rfl : j = k := by omega
              rw [← HX.out, ← HY.out]
          case measure => simp [intOf]; omega
        · have hfin : decide (xs = ys) = false := by
            rw [decide_eq_false_iff_not]; rintro rfl; exact he (HX.out.trans HY.out.symm)
          have Hfin := Lib.hid hfin
          clear hfin
          have hb1 : (x != y) = true := by simp [he]
          go_wp2
          go_ret
          exact ⟨ret_bool Hfin.out.symm, hbl.drewN _⟩
      · obtain rfl : k = n1 := by omega
        have hfin : decide (xs = ys) = true := by
          rw [decide_eq_true_iff]
          refine List.ext_getElem (Hn1.out.symm.trans Hn2.out) fun j hj hj' => ?_
          have := hto j (by rw [Hn1.out]; exact hj)
          simpa [List.getD, List.getElem?_eq_getElem hj, List.getElem?_eq_getElem hj'] using this
        have Hfin := Lib.hid hfin
        clear hfin
        go_wp2
        go_ret
        exact ⟨ret_bool Hfin.out.symm, hbl⟩
  · have hfin : decide (xs = ys) = false := by
      rw [decide_eq_false_iff_not]; rintro rfl; exact hne (Hn1.out.trans Hn2.out.symm)
    have Hfin := Lib.hid hfin
    clear hfin
    go_enter Tryd.func15, Tryd.ntmps15
    go_wp2
    all_goals first | (exfalso; omega) | (go_ret; exact ⟨ret_bool Hfin.out.symm, Below.refl _ _⟩)
def eqStrsTo (xs ys : List ByteArray) (k : Nat) : Prop := ∀ j, j < k → xs.getD j ByteArray.empty = ys.getD j ByteArray.empty
set_option maxRecDepth 100000 in
set_option maxHeartbeats 400000 in
theorem eqStrs_any (xs ys : List ByteArray) (a1 a2 : Option Addr) (n1 n2 c1 c2 : Nat) (w : World) (hn1 : n1 = xs.length) (hn2 : n2 = ys.length) (hm1 : xs.length ≤ maxLen) (hm2 : ys.length ≤ maxLen)
    (h1 : At w a1 (strs xs)) (h2 : At w a2 (strs ys)) :
    Calls Tryd.prog 66 #[.slice a1 n1 c1, .slice a2 n2 c2] w fun e w' => e = .returned (.bool (decide (xs = ys))) ∧ Below w.heap.size w w' := by
  have Hn1 := Lib.hid hn1
  have Hn2 := Lib.hid hn2
  rw [← hn1] at hm1
  rw [← hn2] at hm2
  unfold maxLen at hm1 hm2
  clear hn1 hn2
  by_cases hne : n1 = n2
  · subst hne
    go_enter Tryd.func66, Tryd.ntmps66
    go_wp2
    go_loopw [13] (fun i wr => ∃ k : Nat, k ≤ n1 ∧ i = .int .i64 k ∧ eqStrsTo xs ys k ∧ Below w.heap.size w wr) (fun i _ => n1 - (intOf i).toNat)
    case atStart => exact ⟨0, Nat.zero_le _, rfl, fun j hj => by omega, Below.refl _ _⟩
    case round =>
      obtain ⟨k, hk, rfl, hto, hbl⟩ := hrel
      by_cases hlt : k < n1
      · obtain ⟨b, o, ha, hb, hc⟩ := h1.str (i := k) (by rw [← Hn1.out]; exact hlt)
        obtain ⟨b', o', ha', hb', hc'⟩ := h2.str (i := k) (by rw [← Hn2.out]; exact hlt)
        rw [ha, ha']
        have hx := (hbl.cell (p := ⟨b, o + k, none⟩) hb).trans (hc k (by rw [← Hn1.out]; exact hlt))
        have hy := (hbl.cell (p := ⟨b', o' + k, none⟩) hb').trans (hc' k (by rw [← Hn2.out]; exact hlt))
        clear hc hc' ha ha'
        obtain ⟨x, hX⟩ : ∃ x, x = xs.getD k ByteArray.empty := ⟨_, rfl⟩
        obtain ⟨y, hY⟩ : ∃ y, y = ys.getD k ByteArray.empty := ⟨_, rfl⟩
        rw [← hX] at hx
        rw [← hY] at hy
        have HX := Lib.hid hX
        have HY := Lib.hid hY
        clear hX hY
        go_wp2
        go_quiet (fail)
        by_cases he : x = y
        · subst he
          rw [show (!x.toList == x.toList) = false from by rw [beq_self_eq_true]; rfl]
          go_wp2
          go_roundw
          case rel =>
            refine ⟨k + 1, by omega, by go_num, fun j hj => ?_, hbl.drewN _⟩
            rcases Nat.lt_or_ge j k with h | h
            · exact hto j h
            · obtain rfl : j = k := by omega
              rw [← HX.out, ← HY.out]
          case measure => simp [intOf]; omega
        · have hfin : decide (xs = ys) = false := by
            rw [decide_eq_false_iff_not]; rintro rfl; exact he (HX.out.trans HY.out.symm)
          have Hfin := Lib.hid hfin
          clear hfin
          rw [show (!x.toList == y.toList) = true from by rw [toList_ne he]; rfl]
          go_wp2
          go_ret
          exact ⟨ret_bool Hfin.out.symm, hbl.drewN _⟩
      · obtain rfl : k = n1 := by omega
        have hfin : decide (xs = ys) = true := by
          rw [decide_eq_true_iff]
          refine List.ext_getElem (Hn1.out.symm.trans Hn2.out) fun j hj hj' => ?_
          have := hto j (by rw [Hn1.out]; exact hj)
          simpa [List.getD, List.getElem?_eq_getElem hj, List.getElem?_eq_getElem hj'] using this
        have Hfin := Lib.hid hfin
        clear hfin
        go_wp2
        go_ret
        exact ⟨ret_bool Hfin.out.symm, hbl⟩
  · have hfin : decide (xs = ys) = false := by
      rw [decide_eq_false_iff_not]; rintro rfl; exact hne (Hn1.out.trans Hn2.out.symm)
    have Hfin := Lib.hid hfin
    clear hfin
    go_enter Tryd.func66, Tryd.ntmps66
    go_wp2
    all_goals first | (exfalso; omega) | (go_ret; exact ⟨ret_bool Hfin.out.symm, Below.refl _ _⟩)

def idxIntsNo (xs : List Int) (y : Int) (k : Nat) : Prop := ∀ j, j < k → ¬ y = xs.getD j 0
def idxIntsIn (xs : List Int) (y : Int) : Bool := xs.any (fun x => decide (x = y))
def idxIntsAt (xs : List Int) (y : Int) : Int := if idxIntsIn xs y then (xs.findIdx (fun x => decide (x = y)) : Nat) else -1
theorem idxIntsIn_iff (xs : List Int) (y : Int) : idxIntsIn xs y = true ↔ y ∈ xs := by
  unfold idxIntsIn
  rw [List.any_eq_true]
  constructor
  · rintro ⟨x, hx, e⟩
    rw [← of_decide_eq_true e]; exact hx
  · intro h
    exact ⟨y, h, by simp⟩
theorem idxIntsAt_yes (xs : List Int) (y : Int) (k : Nat) (h : idxIntsNo xs y k) (he : y = xs.getD k 0) (hk : k < xs.length) : idxIntsAt xs y = k := by
  have e : xs.getD k 0 = xs[k] := by simp [List.getD, List.getElem?_eq_getElem hk]
  unfold idxIntsAt
  rw [if_pos ((idxIntsIn_iff xs y).2 (by rw [he, e]; exact List.getElem_mem hk))]
  congr 1
  rw [List.findIdx_eq hk]
  refine ⟨by rw [he, e]; simp, fun j hj => ?_⟩
  have := h j hj
  simp only [List.getD, List.getElem?_eq_getElem (show j < xs.length by omega), Option.getD_some] at this
  simpa using fun h' => this h'.symm
theorem idxIntsAt_no (xs : List Int) (y : Int) (h : idxIntsNo xs y xs.length) : idxIntsAt xs y = -1 := by
  unfold idxIntsAt
  rw [if_neg]
  intro hm
  obtain ⟨j, hj, e⟩ := List.getElem_of_mem ((idxIntsIn_iff xs y).1 hm)
  refine h j hj ?_
  simp [List.getD, List.getElem?_eq_getElem hj, e]
def idxStrsNo (xs : List ByteArray) (y : ByteArray) (k : Nat) : Prop := ∀ j, j < k → ¬ y = xs.getD j ByteArray.empty
def idxStrsIn (xs : List ByteArray) (y : ByteArray) : Bool := xs.any (fun x => decide (x = y))
def idxStrsAt (xs : List ByteArray) (y : ByteArray) : Int := if idxStrsIn xs y then (xs.findIdx (fun x => decide (x = y)) : Nat) else -1
theorem idxStrsIn_iff (xs : List ByteArray) (y : ByteArray) : idxStrsIn xs y = true ↔ y ∈ xs := by
  unfold idxStrsIn
  rw [List.any_eq_true]
  constructor
  · rintro ⟨x, hx, e⟩
    rw [← of_decide_eq_true e]; exact hx
  · intro h
    exact ⟨y, h, by simp⟩
theorem idxStrsAt_yes (xs : List ByteArray) (y : ByteArray) (k : Nat) (h : idxStrsNo xs y k) (he : y = xs.getD k ByteArray.empty) (hk : k < xs.length) : idxStrsAt xs y = k := by
  have e : xs.getD k ByteArray.empty = xs[k] := by simp [List.getD, List.getElem?_eq_getElem hk]
  unfold idxStrsAt
  rw [if_pos ((idxStrsIn_iff xs y).2 (by rw [he, e]; exact List.getElem_mem hk))]
  congr 1
  rw [List.findIdx_eq hk]
  refine ⟨by rw [he, e]; simp, fun j hj => ?_⟩
  have := h j hj
  simp only [List.getD, List.getElem?_eq_getElem (show j < xs.length by omega), Option.getD_some] at this
  simpa using fun h' => this h'.symm
theorem idxStrsAt_no (xs : List ByteArray) (y : ByteArray) (h : idxStrsNo xs y xs.length) : idxStrsAt xs y = -1 := by
  unfold idxStrsAt
  rw [if_neg]
  intro hm
  obtain ⟨j, hj, e⟩ := List.getElem_of_mem ((idxStrsIn_iff xs y).1 hm)
  refine h j hj ?_
  simp [List.getD, List.getElem?_eq_getElem hj, e]
set_option maxRecDepth 100000 in
set_option maxHeartbeats 400000 in
theorem idxInts_any (xs : List Int) (y : Int) (a1 : Option Addr) (n1 c1 : Nat) (w : World) (hn1 : n1 = xs.length) (hm1 : xs.length ≤ maxLen) (h1 : At w a1 (ints xs)) :
    Calls Tryd.prog 89 #[.slice a1 n1 c1, .int .i64 y] w fun e w' => e = .returned (.int .i64 (idxIntsAt xs y)) ∧ Below w.heap.size w w' := by
  have Hn1 := Lib.hid hn1
  rw [← hn1] at hm1
  unfold maxLen at hm1
  clear hn1
  go_enter Tryd.func89, Tryd.ntmps89
  go_wp2
  go_loop [8] (fun i => ∃ k : Nat, k ≤ n1 ∧ i = .int .i64 k ∧ idxIntsNo xs y k) (fun i => n1 - (intOf i).toNat)
  case atStart => exact ⟨0, Nat.zero_le _, rfl, fun j hj => by omega⟩
  case round =>
    obtain ⟨k, hk, rfl, hno⟩ := hrel
    by_cases hlt : k < n1
    · obtain ⟨b, o, ha, hb, hc⟩ := h1.int (i := k) (by rw [← Hn1.out]; exact hlt)
      rw [ha]
      have hx := hc k (by rw [← Hn1.out]; exact hlt)
      clear hc ha
      obtain ⟨x, hX⟩ : ∃ x, x = xs.getD k 0 := ⟨_, rfl⟩
      rw [← hX] at hx
      have HX := Lib.hid hX
      clear hX
      by_cases he : y = x
      · have Hfin := Lib.hid (idxIntsAt_yes xs y k hno (he.trans HX.out) (by rw [← Hn1.out]; exact hlt))
        subst he
        skip
        go_wp2
        go_ret
        exact ⟨ret_int Hfin.out.symm, Below.refl _ _⟩
      · have hno' : idxIntsNo xs y (k + 1) := fun j hj => by
          rcases Nat.lt_or_ge j k with h | h
          · exact hno j h
          · obtain rfl : j = k := by omega
            rw [← HX.out]; exact he
        have hb1 : (y == x) = false := by simp [he]
        go_wp2
        go_round
        case rel => exact ⟨k + 1, by omega, by go_num, hno'⟩
        case measure => simp [intOf]; omega
    · obtain rfl : k = n1 := by omega
      have Hfin := Lib.hid (idxIntsAt_no xs y (by rw [← Hn1.out]; exact hno))
      go_wp2
      go_ret
      exact ⟨ret_int Hfin.out.symm, Below.refl _ _⟩
set_option maxRecDepth 100000 in
set_option maxHeartbeats 400000 in
theorem idxStrs_any (xs : List ByteArray) (y : ByteArray) (a1 : Option Addr) (n1 c1 : Nat) (w : World) (hn1 : n1 = xs.length) (hm1 : xs.length ≤ maxLen) (h1 : At w a1 (strs xs)) :
    Calls Tryd.prog 115 #[.slice a1 n1 c1, .string y] w fun e w' => e = .returned (.int .i64 (idxStrsAt xs y)) ∧ Below w.heap.size w w' := by
  have Hn1 := Lib.hid hn1
  rw [← hn1] at hm1
  unfold maxLen at hm1
  clear hn1
  go_enter Tryd.func115, Tryd.ntmps115
  go_wp2
  go_loop [8] (fun i => ∃ k : Nat, k ≤ n1 ∧ i = .int .i64 k ∧ idxStrsNo xs y k) (fun i => n1 - (intOf i).toNat)
  case atStart => exact ⟨0, Nat.zero_le _, rfl, fun j hj => by omega⟩
  case round =>
    obtain ⟨k, hk, rfl, hno⟩ := hrel
    by_cases hlt : k < n1
    · obtain ⟨b, o, ha, hb, hc⟩ := h1.str (i := k) (by rw [← Hn1.out]; exact hlt)
      rw [ha]
      have hx := hc k (by rw [← Hn1.out]; exact hlt)
      clear hc ha
      obtain ⟨x, hX⟩ : ∃ x, x = xs.getD k ByteArray.empty := ⟨_, rfl⟩
      rw [← hX] at hx
      have HX := Lib.hid hX
      clear hX
      by_cases he : y = x
      · have Hfin := Lib.hid (idxStrsAt_yes xs y k hno (he.trans HX.out) (by rw [← Hn1.out]; exact hlt))
        subst he
        have hb0 : (y.toList == y.toList) = true := beq_self_eq_true _
        go_wp2
        go_ret
        exact ⟨ret_int Hfin.out.symm, Below.refl _ _⟩
      · have hno' : idxStrsNo xs y (k + 1) := fun j hj => by
          rcases Nat.lt_or_ge j k with h | h
          · exact hno j h
          · obtain rfl : j = k := by omega
            rw [← HX.out]; exact he
        have hb1 : (y.toList == x.toList) = false := toList_ne he
        go_wp2
        go_round
        case rel => exact ⟨k + 1, by omega, by go_num, hno'⟩
        case measure => simp [intOf]; omega
    · obtain rfl : k = n1 := by omega
      have Hfin := Lib.hid (idxStrsAt_no xs y (by rw [← Hn1.out]; exact hno))
      go_wp2
      go_ret
      exact ⟨ret_int Hfin.out.symm, Below.refl _ _⟩

set_option maxRecDepth 100000 in
theorem hasStr_any (xs : List ByteArray) (y : ByteArray) (a1 : Option Addr) (n1 c1 : Nat) (w : World) (hn1 : n1 = xs.length) (hm1 : xs.length ≤ maxLen) (h1 : At w a1 (strs xs)) :
    Calls Tryd.prog 112 #[.slice a1 n1 c1, .string y] w fun e w' => e = .returned (.bool (idxStrsIn xs y)) ∧ Below w.heap.size w w' := by
  have hge : decide (0 ≤ idxStrsAt xs y) = idxStrsIn xs y := by
    unfold idxStrsAt
    cases h : idxStrsIn xs y <;> simp
  have Hge := Lib.hid hge
  have Hn := Lib.hid hn1
  clear hge hn1
  go_enter Tryd.func112, Tryd.ntmps112
  go_wp2_with fail
  refine (idxStrs_any xs y a1 n1 c1 _ Hn.out hm1 h1).mono ?_
  rintro e w' ⟨rfl, hb⟩
  go_wp2
  go_ret
  exact ⟨ret_bool Hge.out, hb⟩

end Go.Proofs.YtflmckoolagikaaDoor
