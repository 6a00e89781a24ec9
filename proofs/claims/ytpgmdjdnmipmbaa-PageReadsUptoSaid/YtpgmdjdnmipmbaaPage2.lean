/- page.Rune and page.Byte, and the document's side: all runes of a page. -/
import Derived.Test.YtpgmdjdnmipmbaaPage
import Derived.Test.YtpgmdjdnmipmbaaSlices
namespace Go.Proofs.Ytpgmdjdnmipmbaa
open Go.RowKit Go.Fw

theorem at_take {w : World} {a : Option Addr} {xs : List Value} (h : At w a xs) (k : Nat) : At w a (xs.take k) := by
  rcases h with rfl | ⟨b, o, ha, hb, hc⟩
  · left; simp
  · right
    refine ⟨b, o, ha, hb, fun i hi => ?_⟩
    have hi' : i < k ∧ i < xs.length := by simp at hi; omega
    rw [hc i hi'.2, List.getElem?_take, if_pos hi'.1]

def pageL (p : Int) : List Int := (List.range 256).map (pageOf p)
def mostOf (p : Int) : Nat := if p = 2 then 256 else 128
def pageM (p : Int) : List Int := (pageL p).take (mostOf p)
theorem pageL_len (p : Int) : (pageL p).length = 256 := by simp [pageL]
theorem pageL_get (p : Int) (b : Nat) (hb : b < 256) : (pageL p).getD b 0 = pageOf p b := by
  unfold pageL
  simp [List.getD, hb]
theorem mostOf_le (p : Int) : mostOf p ≤ 256 := by unfold mostOf; split <;> omega
theorem pageM_len (p : Int) : (pageM p).length = mostOf p := by
  have := mostOf_le p
  unfold pageM
  rw [List.length_take, pageL_len]; omega
theorem pageM_get (p : Int) (b : Nat) (hb : b < mostOf p) : (pageM p).getD b 0 = pageOf p b := by
  have := mostOf_le p
  rw [← pageL_get p b (by omega)]
  unfold pageM
  simp [List.getD, hb]

/-- The answer of Byte. -/
def byteOf (p rune : Int) : Int := if (1 ≤ p ∧ p ≤ 4) ∧ 0 ≤ idxIntsAt (pageM p) rune then idxIntsAt (pageM p) rune else 0
def byteErr (p rune : Int) : Int := if (1 ≤ p ∧ p ≤ 4) ∧ 0 ≤ idxIntsAt (pageM p) rune then 0 else 6
theorem idxIntsAt_ge (xs : List Int) (y : Int) : -1 ≤ idxIntsAt xs y := by unfold idxIntsAt; split <;> omega


set_option maxRecDepth 100000 in
set_option maxHeartbeats 1000000 in
theorem pageByte_yes (p rune : Int) (w : World) (hp : 1 ≤ p ∧ p ≤ 4) :
    Calls Try.prog 90 #[.int .i64 p, .int .i64 rune] w fun e w' => e = .returned (.tuple #[.int .u8 (byteOf p rune), .int .i64 (byteErr p rune)]) ∧ Below w.heap.size w w' := by
  obtain ⟨m, hm⟩ : ∃ m, m = mostOf p := ⟨_, rfl⟩
  have hm256 : m ≤ 256 := by rw [hm]; exact mostOf_le p
  have Hm := Lib.hid hm
  have hcase : ((p == 2) = true ∧ m = 256) ∨ ((p == 2) = false ∧ m = 128) := by
    rw [hm]; unfold mostOf
    by_cases h : p = 2
    · left; exact ⟨by simpa using h, if_pos h⟩
    · right; exact ⟨by simpa using h, if_neg h⟩
  clear hm
  rcases hcase with ⟨h2, rfl⟩ | ⟨h2, rfl⟩
  all_goals
    go_enter Try.func90, Try.ntmps90
    go_wp2_with (go_at_call 87; refine (pageKnown_t _ _ hp).mono ?_; rintro e w' ⟨rfl, rfl⟩)
    go_loopw [14] (fun i wr => ∃ k : Nat, k ≤ mostOf p ∧ i = .int .i64 k ∧ idxIntsNo (pageM p) rune k ∧ Below w.heap.size w wr) (fun i _ => mostOf p - (intOf i).toNat)
    case atStart => exact ⟨0, Nat.zero_le _, rfl, fun j hj => by omega, Below.refl _ _⟩
    case round =>
      obtain ⟨k, hk, rfl, hno, hbl⟩ := hrel
      rw [← Hm.out] at hk
      by_cases hlt : k < mostOf p
      · have hlt' := hlt
        rw [← Hm.out] at hlt'
        have hget := pageM_get p k hlt
        have Hget := Lib.hid hget
        have Hlt := Lib.hid hlt
        clear hget hlt
        go_wp2_with fail
        refine (pageOf_any p k _ (by omega)).mono ?_
        rintro e w1 ⟨rfl, hb1⟩
        have hb2 := hbl.trans (hb1.mono hbl.size)
        clear hbl hb1
        by_cases he : rune = pageOf p k
        · have hat := idxIntsAt_yes (pageM p) rune k hno (by rw [Hget.out]; exact he) (by rw [pageM_len]; exact Hlt.out)
          have Hat := Lib.hid hat
          have hbo : byteOf p rune = k := by unfold byteOf; rw [if_pos ⟨hp, by rw [Hat.out]; omega⟩, Hat.out]
          have hbe : byteErr p rune = 0 := by unfold byteErr; rw [if_pos ⟨hp, by rw [Hat.out]; omega⟩]
          have Hbo := Lib.hid hbo
          have Hbe := Lib.hid hbe
          have hd : (pageOf p k == rune) = true := by rw [he]; exact beq_self_eq_true _
          clear hat hbo hbe he hno
          go_wp2_with fail
          go_ret2
          exact ⟨ret2 (by rw [Hbo.out]; rfl) (by rw [Hbe.out]; rfl), hb2⟩
        · have hno' : idxIntsNo (pageM p) rune (k + 1) := fun j hj => by
            rcases Nat.lt_or_ge j k with h | h
            · exact hno j h
            · obtain rfl : j = k := by omega
              rw [Hget.out]; exact he
          have hd : (pageOf p k == rune) = false := by simpa using fun h => he h.symm
          clear he hno
          go_wp2_with fail
          go_roundw
          case rel => exact ⟨k + 1, Hlt.out, by go_num, hno', hb2⟩
          case measure => have := Hlt.out; simp [intOf]; omega
      · have hk' : k = mostOf p := by rw [← Hm.out] at hlt ⊢; omega
        have hat := idxIntsAt_no (pageM p) rune (by rw [pageM_len, ← hk']; exact hno)
        have Hat := Lib.hid hat
        have hbo : byteOf p rune = 0 := by unfold byteOf; rw [if_neg (fun h => by have := h.2; rw [Hat.out] at this; omega)]
        have hbe : byteErr p rune = 6 := by unfold byteErr; rw [if_neg (fun h => by have := h.2; rw [Hat.out] at this; omega)]
        have Hbo := Lib.hid hbo
        have Hbe := Lib.hid hbe
        rw [← Hm.out] at hlt
        clear hat hbo hbe hno hk'
        go_wp2_with fail
        go_ret2
        exact ⟨ret2 (by rw [Hbo.out]; rfl) (by rw [Hbe.out]; rfl), hbl⟩
set_option maxRecDepth 100000 in
theorem pageByte_no (p rune : Int) (w : World) (hp : ¬ (1 ≤ p ∧ p ≤ 4)) :
    Calls Try.prog 90 #[.int .i64 p, .int .i64 rune] w fun e w' => e = .returned (.tuple #[.int .u8 0, .int .i64 6]) ∧ Below w.heap.size w w' := by
  go_enter Try.func90, Try.ntmps90
  go_wp2_with (go_at_call 87; refine (pageKnown_f _ _ hp).mono ?_; rintro e w' ⟨rfl, rfl⟩)
  go_ret2
  exact ⟨rfl, Below.refl _ _⟩

end Go.Proofs.Ytpgmdjdnmipmbaa
