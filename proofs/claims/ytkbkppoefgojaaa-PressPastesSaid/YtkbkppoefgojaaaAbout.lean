/- The walks of the small functions of about, and of what the document's side says of sizes. -/
import Derived.Test.YtkbkppoefgojaaaRows
import Derived.Test.YtkbkppoefgojaaaBase
import Derived.BigQuiet
import Derived.Deep.QuietTactic
namespace Go.Proofs.Ytkbkppoefgojaaa
open Go.RowKit Go.Fw

theorem u8i : (Try.prog.info? 5).map (fun i => (i.zero, i.size, i.bytes)) = some (some (.int .u8 0), 1, 1) := by kernel_rfl
theorem i64i : (Try.prog.info? 3).map (fun i => (i.zero, i.size, i.bytes)) = some (some (.int .i64 0), 1, 8) := by kernel_rfl

set_option maxRecDepth 100000 in
theorem between_any (n lo hi : Int) (w : World) :
    Calls Try.prog 49 #[.int .i64 n, .int .i64 lo, .int .i64 hi] w fun e w' => e = .returned (.bool (decide (lo ≤ n ∧ n ≤ hi))) ∧ w = w' := by
  go_enter Try.func49, Try.ntmps49
  by_cases h1 : lo ≤ n
  · by_cases h2 : n ≤ hi
    · go_wp2
      go_ret
      exact ⟨ret_bool (by simp [h1, h2]), rfl⟩
    · go_wp2
      go_ret
      exact ⟨ret_bool (by simp; omega), rfl⟩
  · go_wp2
    go_ret
    exact ⟨ret_bool (by simp; omega), rfl⟩

theorem between_t (n lo hi : Int) (w : World) (h : lo ≤ n ∧ n ≤ hi) :
    Calls Try.prog 49 #[.int .i64 n, .int .i64 lo, .int .i64 hi] w fun e w' => e = .returned (.bool true) ∧ w = w' :=
  (between_any n lo hi w).mono fun e w' ⟨h1, h2⟩ => ⟨by rw [h1]; simp [h], h2⟩
theorem between_f (n lo hi : Int) (w : World) (h : ¬ (lo ≤ n ∧ n ≤ hi)) :
    Calls Try.prog 49 #[.int .i64 n, .int .i64 lo, .int .i64 hi] w fun e w' => e = .returned (.bool false) ∧ w = w' :=
  (between_any n lo hi w).mono fun e w' ⟨h1, h2⟩ => ⟨by rw [h1]; simp; omega, h2⟩

def sizeOk (a b : Int) : Bool := decide (0 ≤ a ∧ a ≤ 65535 ∧ 0 ≤ b ∧ b ≤ 65535)
def sizeStr (a b : Int) : ByteArray := if sizeOk a b then strOfNums [a / 256, a % 256, b / 256, b % 256] else ⟨#[]⟩
def sizeErr (a b : Int) : Int := if sizeOk a b then 0 else 1

set_option maxRecDepth 100000 in
theorem writeSize_any (a b : Int) (w : World) :
    Calls Try.prog 16 #[.int .i64 a, .int .i64 b] w fun e w' => e = .returned (.tuple #[.string (sizeStr a b), .int .i64 (sizeErr a b)]) ∧ Below w.heap.size w w' := by
  go_enter Try.func16, Try.ntmps16
  by_cases h : 0 ≤ a ∧ a ≤ 65535 ∧ 0 ≤ b ∧ b ≤ 65535
  · have hs : sizeOk a b = true := by simp [sizeOk]; exact h
    obtain ⟨h1, h2, h3, h4⟩ := h
    have hcv := run_convert_bytes_arg (P := Try.prog) (w.alloc (.cells #[.int .u8 (a / 256), .int .u8 (a % 256), .int .u8 (b / 256), .int .u8 (b % 256)] 5)) 89 5 Try.underlying89 Try.underlying5 w.heap.size 0 4 4 [a / 256, a % 256, b / 256, b % 256] rfl
      (fun i hi => by match i, hi with
        | 0, _ => simp [go_sem]
        | 1, _ => simp [go_sem]
        | 2, _ => simp [go_sem]
        | 3, _ => simp [go_sem]) 9 Try.underlying9
    go_wp2
    go_ret2
    exact ⟨by simp [sizeStr, sizeErr, hs], (Below.refl _ _).alloc (Nat.le_refl _) _⟩
  · have hs : sizeOk a b = false := by simp [sizeOk]; omega
    have h1 : sizeStr a b = ⟨#[]⟩ := by simp [sizeStr, hs]
    have h2 : sizeErr a b = 1 := by simp [sizeErr, hs]
    go_wp2
    all_goals first | (exfalso; omega) | (go_ret2; exact ⟨by simp [h1, h2], Below.refl _ _⟩)

/-- Bytes of numbers. -/
def bytesOf (xs : List Int) : ByteArray := strOfNums (xs.map (· % 256))
def bytesAt (xs : List Int) (n k : Nat) : List Value := octs ((xs.take k).map (· % 256) ++ List.replicate (n - k) 0)

theorem bytesAt_zero (xs : List Int) (n : Nat) : (madeCells #[Value.int .u8 0] n).toList = bytesAt xs n 0 := by
  rw [toList_madeCells_one]; simp [bytesAt, octs]
theorem bytesAt_get (xs : List Int) (n k : Nat) (hn : n = xs.length) (hk : k < n) : (bytesAt xs n k)[k]? = some (.int .u8 0) := by
  unfold bytesAt octs
  rw [List.getElem?_map, List.getElem?_append_right (by simp; omega)]
  have : k - (List.map (fun x => x % 256) (List.take k xs)).length = 0 := by simp; omega
  rw [this]
  obtain ⟨m, hm⟩ : ∃ m, n - k = m + 1 := ⟨n - k - 1, by omega⟩
  rw [hm]; rfl
theorem bytesAt_set (xs : List Int) (n k : Nat) (hn : n = xs.length) (hk : k < n) : (bytesAt xs n k).set k (.int .u8 (xs[k]?.getD 0 % 256)) = bytesAt xs n (k + 1) := by
  unfold bytesAt octs
  have hk' : k < xs.length := by omega
  have e : List.take (k + 1) xs = List.take k xs ++ [xs[k]] := by rw [List.take_succ_eq_append_getElem hk']
  obtain ⟨m, hm⟩ : ∃ m, n - k = m + 1 := ⟨n - k - 1, by omega⟩
  rw [e, hm, show n - (k + 1) = m from by omega, List.map_append, List.set_append_right _ _ (by simp; omega)]
  have h0 : k - (List.map (Value.int .u8) (List.map (fun x => x % 256) (List.take k xs))).length = 0 := by simp; omega
  rw [h0, List.replicate_succ]
  rw [List.getElem?_eq_getElem hk']
  simp only [List.map_append, List.map_cons, List.map_nil, List.append_assoc, List.set_cons_zero, List.cons_append, List.nil_append, Option.getD_some]
theorem bytesAt_all (xs : List Int) (n : Nat) (hn : n = xs.length) : bytesAt xs n n = octs (xs.map (· % 256)) := by
  subst hn; simp [bytesAt]

set_option maxRecDepth 100000 in
theorem bytes_any (xs : List Int) (a : Option Addr) (n c : Nat) (w : World) (hn : n = xs.length) (hl : xs.length ≤ 100000) (hx : At w a (ints xs)) :
    Calls Try.prog 57 #[.slice a n c] w fun e w' => e = .returned (.string (bytesOf xs)) ∧ Below w.heap.size w w' := by
  obtain ⟨i0, hi, hz0, hz1, hz2⟩ := info_parts u8i
  have Hn := Lib.hid hn
  rw [← hn] at hl
  clear hn
  go_enter Try.func57, Try.ntmps57
  go_wp2_with (at_make; refine wpList_make_full _ rfl _ _ 89 rfl w.heap.size 5 i0 (.int .u8 0) 1 Try.underlying89 hi hz0 hz1 .i64 .i64 _ _ n rfl rfl rfl rfl ?c1 ?c2 ?c3 ?_)
  case c1 => rw [hz2]; omega
  case c2 => unfold maxLen; omega
  case c3 => exact Nat.le_refl _
  intro w1 hown hgr
  have hb1 : Below w.heap.size w w1 := (Below.refl _ w).grown hgr (Nat.le_refl _) (fun _ h => by cases h)
  go_wp2
  go_loopw [11] (fun i wr => ∃ k : Nat, k ≤ n ∧ i = .int .i64 k ∧ wr.ownsRow w.heap.size 5 1 (.slice (some ⟨w.heap.size, 0, none⟩) n n) n (bytesAt xs n k) ∧ Below w.heap.size w wr) (fun i _ => n - (intOf i).toNat)
  case atStart => exact ⟨0, Nat.zero_le _, rfl, by rw [← bytesAt_zero]; exact hown, hb1⟩
  case round =>
    clear hown hb1 hgr
    obtain ⟨k, hk, rfl, hown, hbl⟩ := hrel
    by_cases hlt : k < n
    · obtain ⟨b, o, ha, hb, hc⟩ := hx.int (i := k) (by rw [← Hn.out]; exact hlt)
      rw [ha]
      have hcx : wr.cell? ⟨b, o + k, none⟩ = some (.int .i64 (xs.getD k 0)) := (hbl.cell (by exact hb)).trans (hc k (by rw [← Hn.out]; exact hlt))
      have hcg : wr.cell? ⟨w.heap.size, k, none⟩ = some (.int .u8 0) := by rw [hown.cellAt k (by omega)]; exact bytesAt_get xs n k Hn.out hlt
      have hfg : wr.frozen? ⟨w.heap.size, k, none⟩ = false := hown.frozenAt k
      clear hc ha
      go_wp2
      go_roundw
      case rel => exact ⟨k + 1, by omega, by go_num, by rw [← bytesAt_set xs n k Hn.out hlt]; exact (hown.stored k _).1, hbl.setCell (Nat.le_refl _) _⟩
      case measure => simp [intOf]; omega
    · obtain rfl : k = n := by omega
      rw [bytesAt_all xs k Hn.out] at hown
      have hcv := run_convert_bytes_arg (P := Try.prog) wr 89 5 Try.underlying89 Try.underlying5 w.heap.size 0 k k (xs.map (· % 256)) (by rw [Hn.out]; simp)
        (fun i hi => by rw [Nat.zero_add, hown.cellAt i (by omega)]; simp [octs, List.getD, List.getElem?_eq_getElem (show i < xs.length by rw [← Hn.out]; exact hi)]) 9 Try.underlying9
      go_wp2
      go_ret
      exact ⟨rfl, hbl⟩

set_option maxRecDepth 100000 in
theorem sizeText_any (a b : Int) (w : World) :
    Calls Try.prog 17 #[.int .i64 a, .int .i64 b] w fun e w' => e = .returned (.tuple #[.string (sizeStr a b), .int .i64 (sizeErr a b)]) ∧ Below w.heap.size w w' := by
  by_cases h : 0 ≤ a ∧ a ≤ 65535 ∧ 0 ≤ b ∧ b ≤ 65535
  · have hs : sizeOk a b = true := by simp [sizeOk]; exact h
    have h1 : sizeStr a b = bytesOf [a / 256, a % 256, b / 256, b % 256] := by
      simp only [sizeStr, hs, if_true, bytesOf, List.map]
      rw [show a / 256 % 256 = a / 256 from by omega, show a % 256 % 256 = a % 256 from by omega, show b / 256 % 256 = b / 256 from by omega, show b % 256 % 256 = b % 256 from by omega]
    have h2 : sizeErr a b = 0 := by simp [sizeErr, hs]
    have h1 := Lib.hid h1
    have h2 := Lib.hid h2
    obtain ⟨ha, ha', hb, hb'⟩ := h
    have da : decide (0 ≤ a ∧ a ≤ 65535) = true := by simp; omega
    have db : decide (0 ≤ b ∧ b ≤ 65535) = true := by simp; omega
    go_enter Try.func17, Try.ntmps17
    go_wp2_with (first | (go_at_call 49; (first | refine (between_t _ _ _ _ (by omega)).mono ?_ | refine (between_f _ _ _ _ (by omega)).mono ?_); rintro e w' ⟨rfl, rfl⟩) | (go_at_call 57; refine (bytes_any [a / 256, a % 256, b / 256, b % 256] _ 4 4 _ rfl (by simp) (At.new _ _ _)).mono ?_; rintro e w1 ⟨rfl, hb1⟩))
    go_ret2
    exact ⟨by simp [h1.out, h2.out], ((Below.refl _ _).alloc (Nat.le_refl _) _).trans (hb1.mono (by simp))⟩
  · have hs : sizeOk a b = false := by simp [sizeOk]; omega
    have h1 : sizeStr a b = ⟨#[]⟩ := by simp [sizeStr, hs]
    have h2 : sizeErr a b = 1 := by simp [sizeErr, hs]
    by_cases ha : 0 ≤ a ∧ a ≤ 65535
    all_goals go_enter Try.func17, Try.ntmps17
    all_goals go_wp2_with (go_at_call 49; (first | refine (between_t _ _ _ _ (by omega)).mono ?_ | refine (between_f _ _ _ _ (by omega)).mono ?_); rintro e w' ⟨rfl, rfl⟩)
    all_goals first | (exfalso; omega) | (go_ret2; exact ⟨by simp [h1, h2], Below.refl _ _⟩)

set_option maxRecDepth 100000 in
theorem readSize_short (s : ByteArray) (w : World) (h : s.size < 4) :
    Calls Try.prog 18 #[.string s] w fun e w' => e = .returned (.tuple #[.int .i64 0, .int .i64 0, .int .i64 3]) ∧ Below w.heap.size w w' := by
  go_enter Try.func18, Try.ntmps18
  go_wp2
  go_ret3
  exact ⟨rfl, Below.refl _ _⟩
set_option maxRecDepth 100000 in
theorem readSize_long (s : ByteArray) (w : World) (h : 4 < s.size) (hm : s.size ≤ maxLen) :
    Calls Try.prog 18 #[.string s] w fun e w' => e = .returned (.tuple #[.int .i64 0, .int .i64 0, .int .i64 4]) ∧ Below w.heap.size w w' := by
  unfold maxLen at hm
  go_enter Try.func18, Try.ntmps18
  go_wp2
  go_ret3
  exact ⟨rfl, Below.refl _ _⟩
set_option maxRecDepth 100000 in
theorem readSize_four (s : ByteArray) (w : World) (h : s.size = 4) :
    Calls Try.prog 18 #[.string s] w fun e w' => e = .returned (.tuple #[.int .i64 (256 * (s[0]'(by omega)).toNat + (s[1]'(by omega)).toNat), .int .i64 (256 * (s[2]'(by omega)).toNat + (s[3]'(by omega)).toNat), .int .i64 0]) ∧ Below w.heap.size w w' := by
  have h0 : (s[0]'(by omega)).toNat < 256 := UInt8.toNat_lt _
  have h1 : (s[1]'(by omega)).toNat < 256 := UInt8.toNat_lt _
  have h2 : (s[2]'(by omega)).toNat < 256 := UInt8.toNat_lt _
  have h3 : (s[3]'(by omega)).toNat < 256 := UInt8.toNat_lt _
  go_enter Try.func18, Try.ntmps18
  go_wp2
  go_quiet (fail)
  go_wp2
  go_ret3
  exact ⟨ret3 (congrArg _ (shl_or _ _ h0 h1)) (congrArg _ (shl_or _ _ h2 h3)) rfl, ((Below.refl _ _).drewN _)⟩

end Go.Proofs.Ytkbkppoefgojaaa
