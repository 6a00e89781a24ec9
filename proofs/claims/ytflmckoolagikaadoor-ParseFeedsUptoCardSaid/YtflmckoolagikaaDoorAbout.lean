/- The walks of the small functions of about, and of what the document's side says of sizes. -/
import Derived.Test.YtflmckoolagikaaDoorRows
import Derived.Test.YtflmckoolagikaaDoorBase
import Derived.BigQuiet
import Derived.Deep.QuietTactic
namespace Go.Proofs.YtflmckoolagikaaDoor
open Go.RowKit Go.Fw

theorem u8i : (Tryd.prog.info? 5).map (fun i => (i.zero, i.size, i.bytes)) = some (some (.int .u8 0), 1, 1) := by kernel_rfl
theorem i64i : (Tryd.prog.info? 3).map (fun i => (i.zero, i.size, i.bytes)) = some (some (.int .i64 0), 1, 8) := by kernel_rfl

set_option maxRecDepth 100000 in
theorem between_any (n lo hi : Int) (w : World) :
    Calls Tryd.prog 26 #[.int .i64 n, .int .i64 lo, .int .i64 hi] w fun e w' => e = .returned (.bool (decide (lo ≤ n ∧ n ≤ hi))) ∧ w = w' := by
  go_enter Tryd.func26, Tryd.ntmps26
  by_cases h1 : lo ≤ n
  · by_cases h2 : n ≤ hi
    · go_wp2
      go_ret
      exact ⟨ret_bool (by simp [h1, h2]), rfl⟩
    · go_wp2
      go_ret
      exact ⟨ret_bool (by simp; omega), rfl⟩
  · go_wp2
    go_ret
    exact ⟨ret_bool (by simp; omega), rfl⟩

theorem between_t (n lo hi : Int) (w : World) (h : lo ≤ n ∧ n ≤ hi) :
    Calls Tryd.prog 26 #[.int .i64 n, .int .i64 lo, .int .i64 hi] w fun e w' => e = .returned (.bool true) ∧ w = w' :=
  (between_any n lo hi w).mono fun e w' ⟨h1, h2⟩ => ⟨by rw [h1]; simp [h], h2⟩
theorem between_f (n lo hi : Int) (w : World) (h : ¬ (lo ≤ n ∧ n ≤ hi)) :
    Calls Tryd.prog 26 #[.int .i64 n, .int .i64 lo, .int .i64 hi] w fun e w' => e = .returned (.bool false) ∧ w = w' :=
  (between_any n lo hi w).mono fun e w' ⟨h1, h2⟩ => ⟨by rw [h1]; simp; omega, h2⟩

def sizeOk (a b : Int) : Bool := decide (0 ≤ a ∧ a ≤ 65535 ∧ 0 ≤ b ∧ b ≤ 65535)
def sizeStr (a b : Int) : ByteArray := if sizeOk a b then strOfNums [a / 256, a % 256, b / 256, b % 256] else ⟨#[]⟩
def sizeErr (a b : Int) : Int := if sizeOk a b then 0 else 1


/-- Bytes of numbers. -/
def bytesOf (xs : List Int) : ByteArray := strOfNums (xs.map (· % 256))
def bytesAt (xs : List Int) (n k : Nat) : List Value := octs ((xs.take k).map (· % 256) ++ List.replicate (n - k) 0)

theorem bytesAt_zero (xs : List Int) (n : Nat) : (madeCells #[Value.int .u8 0] n).toList = bytesAt xs n 0 := by
  rw [toList_madeCells_one]; simp [bytesAt, octs]
theorem bytesAt_get (xs : List Int) (n k : Nat) (hn : n = xs.length) (hk : k < n) : (bytesAt xs n k)[k]? = some (.int .u8 0) := by
  unfold bytesAt octs
  rw [List.getElem?_map, List.getElem?_append_right (by simp; omega)]
  have : k - (List.map (fun x => x % 256) (List.take k xs)).length = 0 := by simp; omega
  rw [this]
  obtain ⟨m, hm⟩ : ∃ m, n - k = m + 1 := ⟨n - k - 1, by omega⟩
  rw [hm]; rfl
theorem bytesAt_set (xs : List Int) (n k : Nat) (hn : n = xs.length) (hk : k < n) : (bytesAt xs n k).set k (.int .u8 (xs[k]?.getD 0 % 256)) = bytesAt xs n (k + 1) := by
  unfold bytesAt octs
  have hk' : k < xs.length := by omega
  have e : List.take (k + 1) xs = List.take k xs ++ [xs[k]] := by rw [List.take_succ_eq_append_getElem hk']
  obtain ⟨m, hm⟩ : ∃ m, n - k = m + 1 := ⟨n - k - 1, by omega⟩
  rw [e, hm, show n - (k + 1) = m from by omega, List.map_append, List.set_append_right _ _ (by simp; omega)]
  have h0 : k - (List.map (Value.int .u8) (List.map (fun x => x % 256) (List.take k xs))).length = 0 := by simp; omega
  rw [h0, List.replicate_succ]
  rw [List.getElem?_eq_getElem hk']
  simp only [List.map_append, List.map_cons, List.map_nil, List.append_assoc, List.set_cons_zero, List.cons_append, List.nil_append, Option.getD_some]
theorem bytesAt_all (xs : List Int) (n : Nat) (hn : n = xs.length) : bytesAt xs n n = octs (xs.map (· % 256)) := by
  subst hn; simp [bytesAt]

set_option maxRecDepth 100000 in
theorem bytes_any (xs : List Int) (a : Option Addr) (n c : Nat) (w : World) (hn : n = xs.length) (hl : xs.length ≤ 100000) (hx : At w a (ints xs)) :
    Calls Tryd.prog 47 #[.slice a n c] w fun e w' => e = .returned (.string (bytesOf xs)) ∧ Below w.heap.size w w' := by
  obtain ⟨i0, hi, hz0, hz1, hz2⟩ := info_parts u8i
  have Hn := Lib.hid hn
  rw [← hn] at hl
  clear hn
  go_enter Tryd.func47, Tryd.ntmps47
  go_wp2_with (at_make; refine wpList_make_full _ rfl _ _ 92 rfl w.heap.size 5 i0 (.int .u8 0) 1 Tryd.underlying92 hi hz0 hz1 .i64 .i64 _ _ n rfl rfl rfl rfl ?c1 ?c2 ?c3 ?_)
  case c1 => rw [hz2]; omega
  case c2 => unfold maxLen; omega
  case c3 => exact Nat.le_refl _
  intro w1 hown hgr
  have hb1 : Below w.heap.size w w1 := (Below.refl _ w).grown hgr (Nat.le_refl _) (fun _ h => by cases h)
  go_wp2
  go_loopw [11] (fun i wr => ∃ k : Nat, k ≤ n ∧ i = .int .i64 k ∧ wr.ownsRow w.heap.size 5 1 (.slice (some ⟨w.heap.size, 0, none⟩) n n) n (bytesAt xs n k) ∧ Below w.heap.size w wr) (fun i _ => n - (intOf i).toNat)
  case atStart => exact ⟨0, Nat.zero_le _, rfl, by rw [← bytesAt_zero]; exact hown, hb1⟩
  case round =>
    clear hown hb1 hgr
    obtain ⟨k, hk, rfl, hown, hbl⟩ := hrel
    by_cases hlt : k < n
    · obtain ⟨b, o, ha, hb, hc⟩ := hx.int (i := k) (by rw [← Hn.out]; exact hlt)
      rw [ha]
      have hcx : wr.cell? ⟨b, o + k, none⟩ = some (.int .i64 (xs.getD k 0)) := (hbl.cell (by exact hb)).trans (hc k (by rw [← Hn.out]; exact hlt))
      have hcg : wr.cell? ⟨w.heap.size, k, none⟩ = some (.int .u8 0) := by rw [hown.cellAt k (by omega)]; exact bytesAt_get xs n k Hn.out hlt
      have hfg : wr.frozen? ⟨w.heap.size, k, none⟩ = false := hown.frozenAt k
      clear hc ha
      go_wp2
      go_roundw
      case rel => exact ⟨k + 1, by omega, by go_num, by rw [← bytesAt_set xs n k Hn.out hlt]; exact (hown.stored k _).1, hbl.setCell (Nat.le_refl _) _⟩
      case measure => simp [intOf]; omega
    · obtain rfl : k = n := by omega
      rw [bytesAt_all xs k Hn.out] at hown
      have hcv := run_convert_bytes_arg (P := Tryd.prog) wr 92 5 Tryd.underlying92 Tryd.underlying5 w.heap.size 0 k k (xs.map (· % 256)) (by rw [Hn.out]; simp)
        (fun i hi => by rw [Nat.zero_add, hown.cellAt i (by omega)]; simp [octs, List.getD, List.getElem?_eq_getElem (show i < xs.length by rw [← Hn.out]; exact hi)]) 9 Tryd.underlying9
      go_wp2
      go_ret
      exact ⟨rfl, hbl⟩



end Go.Proofs.YtflmckoolagikaaDoor
