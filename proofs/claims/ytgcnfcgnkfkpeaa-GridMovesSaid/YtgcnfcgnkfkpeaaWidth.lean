/- The walks of width and of what the document's side says of widths, and that the two agree. -/
import Derived.Test.YtgcnfcgnkfkpeaaAbout
namespace Go.Proofs.Ytgcnfcgnkfkpeaa
open Go.RowKit Go.Fw

def inTab (n : Int) (l : List (Int × Int)) : Bool := l.any fun x => decide (x.1 ≤ n ∧ n ≤ x.2)
def inNo (n : Int) (l : List (Int × Int)) (k : Nat) : Prop := ∀ j, j < k → ¬ ((l.getD j (0, 0)).1 ≤ n ∧ n ≤ (l.getD j (0, 0)).2)
theorem inTab_yes (n : Int) (l : List (Int × Int)) (k : Nat) (hk : k < l.length) (h : (l.getD k (0, 0)).1 ≤ n ∧ n ≤ (l.getD k (0, 0)).2) : inTab n l = true := by
  unfold inTab
  rw [List.any_eq_true]
  simp only [List.getD, List.getElem?_eq_getElem hk, Option.getD_some] at h
  exact ⟨l[k], List.getElem_mem hk, by simpa using h⟩
theorem inTab_no (n : Int) (l : List (Int × Int)) (h : inNo n l l.length) : inTab n l = false := by
  unfold inTab
  rw [List.any_eq_false]
  intro x hx
  obtain ⟨j, hj, rfl⟩ := List.getElem_of_mem hx
  have := h j hj
  simp only [List.getD, List.getElem?_eq_getElem hj, Option.getD_some] at this
  simpa using this

set_option maxRecDepth 100000 in
set_option maxHeartbeats 400000 in
theorem in_any (n : Int) (l : List (Int × Int)) (a : Option Addr) (m c : Nat) (w : World) (hm : m = l.length) (hl : m ≤ 1000) (h : At w a (flat2 l)) :
    Calls Try.prog 140 #[.int .i64 n, .slice a m c] w fun e w' => e = .returned (.bool (inTab n l)) ∧ Below w.heap.size w w' := by
  have Hm := Lib.hid hm
  clear hm
  go_enter Try.func140, Try.ntmps140
  go_wp2
  go_loopw [9] (fun i wr => ∃ k : Nat, k ≤ m ∧ i = .int .i64 k ∧ inNo n l k ∧ Below w.heap.size w wr) (fun i _ => m - (intOf i).toNat)
  case atStart => exact ⟨0, Nat.zero_le _, rfl, fun j hj => by omega, Below.refl _ _⟩
  case round =>
    obtain ⟨k, hk, rfl, hno, hbl⟩ := hrel
    by_cases hlt : k < m
    · obtain ⟨b, o, ha, hb, hc⟩ := h.pair (k := k) (by rw [← Hm.out]; exact hlt)
      rw [ha]
      have hcc := hc k (by rw [← Hm.out]; exact hlt)
      have hx := (hbl.cell (p := ⟨b, o + k * 2, none⟩) hb).trans hcc.1
      have hy := (hbl.cell (p := ⟨b, o + k * 2 + 1, none⟩) hb).trans hcc.2
      clear hc ha hcc
      obtain ⟨x, hX⟩ : ∃ x, x = (l.getD k (0, 0)).1 := ⟨_, rfl⟩
      obtain ⟨y, hY⟩ : ∃ y, y = (l.getD k (0, 0)).2 := ⟨_, rfl⟩
      rw [← hX] at hx
      rw [← hY] at hy
      have HX := Lib.hid hX
      have HY := Lib.hid hY
      clear hX hY
      by_cases h1 : x ≤ n ∧ n ≤ y
      · have Hfin := Lib.hid (inTab_yes n l k (by rw [← Hm.out]; exact hlt) (by rw [← HX.out, ← HY.out]; exact h1))
        obtain ⟨h1, h2⟩ := h1
        go_wp2
        go_ret
        exact ⟨ret_bool Hfin.out.symm, hbl.alloc hbl.size _⟩
      · have hno' : inNo n l (k + 1) := fun j hj => by
          rcases Nat.lt_or_ge j k with h | h
          · exact hno j h
          · obtain rfl : j = k := by omega
            rw [← HX.out, ← HY.out]; exact h1
        by_cases h2 : x ≤ n
        all_goals
          go_wp2
          all_goals first
            | (exfalso; omega)
            | (go_roundw
               case rel => exact ⟨k + 1, by omega, by go_num, hno', hbl.alloc hbl.size _⟩
               case measure => simp [intOf]; omega)
    · obtain rfl : k = m := by omega
      have Hfin := Lib.hid (inTab_no n l (by rw [← Hm.out]; exact hno))
      go_wp2
      go_ret
      exact ⟨ret_bool Hfin.out.symm, hbl⟩

def noneTab : List (Int × Int) := [(0, 31), (127, 159), (768, 879), (8203, 8207), (55296, 57343), (65024, 65039)]
def twoTab : List (Int × Int) := [(4352, 4447), (11904, 12350), (12353, 19903), (19968, 42191), (44032, 55203), (63744, 64255), (65072, 65135), (65280, 65376), (65504, 65510), (127744, 128591), (129280, 129535), (131072, 262141)]
def refTab : List (Int × Int) := [(0, 0), (32, 1), (127, 0), (160, 1), (768, 0), (880, 1), (4352, 2), (4448, 1), (8203, 0), (8208, 1), (11904, 2), (12351, 1), (12353, 2), (19904, 1), (19968, 2), (42192, 1), (44032, 2), (55204, 1), (63744, 2), (64256, 1), (65024, 0), (65040, 1), (65072, 2), (65136, 1), (65280, 2), (65377, 1), (65504, 2), (65511, 1), (127744, 2), (128592, 1), (129280, 2), (129536, 1), (131072, 2), (262142, 1)]
def isRune (n : Int) : Bool := decide ((0 ≤ n ∧ n ≤ 55295) ∨ (57344 ≤ n ∧ n ≤ 1114111))
def widthOf (n : Int) : Int := if n < 0 ∨ 1114111 < n ∨ inTab n noneTab = true then 0 else if inTab n twoTab = true then 2 else 1
def refTo (n : Int) (k : Nat) : Int := (refTab.take k).foldl (fun w x => if x.1 ≤ n then x.2 else w) 0
def refWidth (n : Int) : Int := if isRune n = true then refTo n 34 else 0
theorem widthOf_bd (n : Int) : 0 ≤ widthOf n ∧ widthOf n ≤ 2 := by unfold widthOf; split <;> (try split) <;> omega

def tabParts (l : List (Int × Int)) : List (Nat × Value) := l.zipIdx.map fun (x, i) => (i, .agg #[.int .i64 x.1, .int .i64 x.2])
def tabCells (l : List (Int × Int)) : Array Value := (flat2 l).toArray
theorem tabCells_toList (l : List (Int × Int)) : (tabCells l).toList = flat2 l := rfl
theorem built_none : Try.prog.built 169 (tabParts noneTab) = some (tabCells noneTab) := by kernel_rfl
theorem built_two : Try.prog.built 170 (tabParts twoTab) = some (tabCells twoTab) := by kernel_rfl
theorem size_none : (Try.prog.info? 169).map (·.size) = some (tabCells noneTab).size := by kernel_rfl
theorem size_two : (Try.prog.info? 170).map (·.size) = some (tabCells twoTab).size := by kernel_rfl
theorem one_none : (tabCells noneTab).all (·.oneCell') = true := by kernel_rfl
theorem one_two : (tabCells twoTab).all (·.oneCell') = true := by kernel_rfl
set_option maxRecDepth 100000 in
set_option maxHeartbeats 1000000 in
theorem widthOf_out (n : Int) (w : World) (h0 : n < 0 ∨ 1114111 < n) :
    Calls Try.prog 111 #[.int .i64 n] w fun e w' => e = .returned (.int .i64 (widthOf n)) ∧ Below w.heap.size w w' := by
  have Hfin : Hid (widthOf n = 0) := by unfold Hid widthOf; rw [if_pos (by omega)]
  have hd : (decide (n < 0) || decide (1114111 < n)) = true := by simp; omega
  clear h0
  go_enter Try.func111, Try.ntmps111
  go_wp2_with (first | ((with_reducible refine fw_build rfl 169 _ rfl (tabParts noneTab) (tabCells noneTab) ?_ built_none ?_); (focus rfl)) | ((with_reducible refine fw_build rfl 170 _ rfl (tabParts twoTab) (tabCells twoTab) ?_ built_two ?_); (focus rfl)) | ((with_reducible refine fw_store_new rfl 169 _ _ rfl _ w.heap.size _ (tabCells noneTab) rfl ?_ ?_ ?_ size_none ?_ one_none ?_); (focus rfl); (focus rfl); (focus rfl); (focus rfl)) | ((with_reducible refine fw_store_new rfl 170 _ _ rfl _ (w.heap.size + 1) _ (tabCells twoTab) rfl ?_ ?_ ?_ size_two ?_ one_two ?_); (focus rfl); (focus rfl); (focus simp); (focus rfl)))
  all_goals
    go_ret
    exact ⟨ret_int Hfin.out.symm, by go_grown⟩
set_option maxRecDepth 100000 in
set_option maxHeartbeats 1000000 in
theorem widthOf_in (n : Int) (w : World) (h0' : 0 ≤ n ∧ n ≤ 1114111) :
    Calls Try.prog 111 #[.int .i64 n] w fun e w' => e = .returned (.int .i64 (widthOf n)) ∧ Below w.heap.size w w' := by
  have Hfin : Hid (widthOf n = if inTab n noneTab = true then 0 else if inTab n twoTab = true then 2 else 1) := by
    unfold Hid widthOf
    by_cases h : inTab n noneTab = true
    · rw [if_pos (.inr (.inr h)), if_pos h]
    · rw [if_neg (by rintro (h1 | h1 | h1) <;> first | omega | exact h h1), if_neg h]
  go_enter Try.func111, Try.ntmps111
  go_wp2_with (first | ((with_reducible refine fw_build rfl 169 _ rfl (tabParts noneTab) (tabCells noneTab) ?_ built_none ?_); (focus rfl)) | ((with_reducible refine fw_build rfl 170 _ rfl (tabParts twoTab) (tabCells twoTab) ?_ built_two ?_); (focus rfl)) | ((with_reducible refine fw_store_new rfl 169 _ _ rfl _ w.heap.size _ (tabCells noneTab) rfl ?_ ?_ ?_ size_none ?_ one_none ?_); (focus rfl); (focus rfl); (focus rfl); (focus rfl)) | ((with_reducible refine fw_store_new rfl 170 _ _ rfl _ (w.heap.size + 1) _ (tabCells twoTab) rfl ?_ ?_ ?_ size_two ?_ one_two ?_); (focus rfl); (focus rfl); (focus simp); (focus rfl)))
  refine (in_any n noneTab _ 6 6 _ rfl (by omega) ((At.newAt (by simp) rfl).alloc _)).mono ?_
  rintro e w1 ⟨rfl, hb1⟩
  have hb : Below w.heap.size w w1 := by refine Below.trans ?_ (hb1.mono ?_) <;> first | go_grown | simp
  have hat : At w1 (some ⟨w.heap.size + 1, 0, none⟩) (flat2 twoTab) := (At.newAt (by simp) rfl).mono hb1
  clear hb1
  cases h1 : inTab n noneTab with
  | true =>
    rw [h1] at Hfin
    clear h1 hat
    go_wp2_with fail
    go_ret
    exact ⟨ret_int Hfin.out.symm, hb⟩
  | false =>
    rw [h1] at Hfin
    clear h1
    go_wp2_with fail
    refine (in_any n twoTab _ 12 12 _ rfl (by omega) hat).mono ?_
    rintro e w2 ⟨rfl, hb2⟩
    have hb3 := ext_trans hb hb2
    clear hat hb2 hb
    cases h2 : inTab n twoTab
    all_goals
      rw [h2] at Hfin
      clear h2
      go_wp2_with fail
      go_ret
      exact ⟨ret_int (by rw [Hfin.out]; rfl), hb3⟩
theorem widthOf_any (n : Int) (w : World) :
    Calls Try.prog 111 #[.int .i64 n] w fun e w' => e = .returned (.int .i64 (widthOf n)) ∧ Below w.heap.size w w' := by
  by_cases h0 : n < 0 ∨ 1114111 < n
  · exact widthOf_out n w h0
  · exact widthOf_in n w (by omega)

set_option maxRecDepth 100000 in
theorem isRune_any (n : Int) (w : World) :
    Calls Try.prog 75 #[.int .i64 n] w fun e w' => e = .returned (.bool (isRune n)) ∧ w = w' := by
  by_cases h1 : 0 ≤ n ∧ n ≤ 55295
  · have Hfin : Hid (isRune n = true) := by unfold Hid isRune; simp; omega
    go_enter Try.func75, Try.ntmps75
    go_wp2_with (go_at_call 50; refine (between_t _ _ _ _ (by omega)).mono ?_; rintro e w' ⟨rfl, rfl⟩)
    go_ret
    exact ⟨ret_bool Hfin.out.symm, rfl⟩
  · by_cases h2 : 57344 ≤ n ∧ n ≤ 1114111
    · have Hfin : Hid (isRune n = true) := by unfold Hid isRune; simp; omega
      go_enter Try.func75, Try.ntmps75
      go_wp2_with (go_at_call 50; (first | refine (between_t _ _ _ _ (by omega)).mono ?_ | refine (between_f _ _ _ _ (by omega)).mono ?_); rintro e w' ⟨rfl, rfl⟩)
      go_ret
      exact ⟨ret_bool Hfin.out.symm, rfl⟩
    · have Hfin : Hid (isRune n = false) := by unfold Hid isRune; simp; omega
      go_enter Try.func75, Try.ntmps75
      go_wp2_with (go_at_call 50; (first | refine (between_t _ _ _ _ (by omega)).mono ?_ | refine (between_f _ _ _ _ (by omega)).mono ?_); rintro e w' ⟨rfl, rfl⟩)
      go_ret
      exact ⟨ret_bool Hfin.out.symm, rfl⟩

end Go.Proofs.Ytgcnfcgnkfkpeaa
