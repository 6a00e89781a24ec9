/- width.cut, width.Cut, width.Fill, farref.Fitting: walks. -/
import Derived.Test.YtgcnfcgnkfkpeaaSxp
import Derived.Test.YtgcnfcgnkfkpeaaWidthSum
import Derived.Test.YtgcnfcgnkfkpeaaWidthSame
import Derived.Test.YtgcnfcgnkfkpeaaFind3
namespace Go.Proofs.Ytgcnfcgnkfkpeaa
open Go Go.RowKit Go.Fw Go.Sx
set_option maxRecDepth 100000
set_option maxHeartbeats 1000000
attribute [local irreducible] SW SL SQ AtQ SV SC BB LD PK Yields SO SOT SOA SY
theorem refWidths_mono (l : List Int) (i j : Nat) (h : i ≤ j) (hj : j ≤ l.length) : refWidths (l.take i) ≤ refWidths (l.take j) := by
  induction j with
  | zero => obtain rfl : i = 0 := by omega
            exact Int.le_refl _
  | succ j ih =>
    rcases Nat.eq_or_lt_of_le h with rfl | hlt
    · exact Int.le_refl _
    · have h1 := ih (by omega) (by omega)
      rw [refWidths_succ l j (by omega)]
      have := refWidth_bd (l.getD j 0)
      omega
/-- How many at most are no wider than w. -/
def IsCut (l : List Int) (w : Int) (k : Nat) : Prop := k ≤ l.length ∧ refWidths (l.take k) ≤ w ∧ ∀ j, k < j → j ≤ l.length → w < refWidths (l.take j)
theorem isCut_ex (l : List Int) (w : Int) (h : 0 ≤ w) : ∃ k, IsCut l w k := by
  have key : ∀ m, m ≤ l.length → (∀ j, m < j → j ≤ l.length → w < refWidths (l.take j)) → ∃ k, IsCut l w k := by
    intro m
    induction m with
    | zero => intro hm hh; exact ⟨0, hm, by simpa [refWidths] using h, hh⟩
    | succ m ih =>
      intro hm hh
      by_cases hle : refWidths (l.take (m + 1)) ≤ w
      · exact ⟨m + 1, hm, hle, hh⟩
      · refine ih (by omega) fun j hj hj2 => ?_
        rcases Nat.eq_or_lt_of_le hj with rfl | hlt
        · exact Int.not_le.1 hle
        · exact hh j hlt hj2
  exact key l.length (Nat.le_refl _) (fun j h1 h2 => by omega)
theorem IsCut.at {l : List Int} {w : Int} {k i : Nat} (h : IsCut l w k) (hi : i < l.length) (h1 : refWidths (l.take i) ≤ w) (h2 : w < refWidths (l.take i) + refWidth (l.getD i 0)) : i = k := by
  obtain ⟨g1, g2, g3⟩ := h
  rw [← refWidths_succ l i hi] at h2
  rcases Nat.lt_trichotomy i k with hlt | rfl | hlt
  · have := refWidths_mono l (i + 1) k hlt g1
    omega
  · rfl
  · have := g3 i hlt (by omega)
    omega
theorem IsCut.last {l : List Int} {w : Int} {k : Nat} (h : IsCut l w k) (h1 : refWidths (l.take l.length) ≤ w) : l.length = k := by
  obtain ⟨g1, g2, g3⟩ := h
  rcases Nat.eq_or_lt_of_le g1 with h | hlt
  · exact h.symm
  · have := g3 l.length hlt (Nat.le_refl _)
    omega
theorem widthOf_sv (G : Ctx) (H : List Ent) (x : Int) : SV Try.prog G 111 [.int .i64 x] H (.int .i64 (refWidth x)) :=
  sv_of_calls (callee_of Try.func111 rfl rfl) fun w _ => by rw [← width_same]; exact widthOf_any x w
theorem cut_sv (G : Ctx) (H : List Ent) (xs : List Int) (a : Option Addr) (n c : Nat) (w : Int) (k : Nat) (hn : n = xs.length) (hl : n ≤ 100000) (hw : 0 ≤ w ∧ w ≤ 160) (hk : IsCut xs w k) [RdC G H a (ints xs)] :
    SV Try.prog G 110 [.slice a n c, .int .i64 w] H (.tuple #[.int .i64 k, .int .i64 (refWidths (xs.take k))]) := by
  have Hn := Lib.hid hn
  have hx : ∀ k, k < n → (ints xs)[(k : Int).toNat * 1]? = some (.int .i64 (xs.getD k 0)) := fun k hk => ints_at xs k (by rw [← Hn.out]; exact hk)
  have hlx : (ints xs).length = n * 1 := by simp [ints, hn]
  have Hx := Lib.hid hx
  have Hk := Lib.hid hk
  clear hn hx hk
  have hone := fun H x => widthOf_sv G H x
  refine sv_enter2 Try.func110 rfl rfl rfl rfl rfl ?_
  repeat' (first | (apply g_sl; first | (apply ks_nil; refine sl_nil ?_) | (apply ks_move; refine s_move rfl rfl ?_) | (apply ks_bin; refine s_bin rfl rfl rfl ?_; first | fail | (first | (apply kb_add; first | refine bb_add ⟨by omega, by omega⟩ ?_ | refine bb_of rfl ?_) | refine bb_of rfl ?_)) | (apply ks_load; first | (refine s_load rfl rfl ?_; first | refine ld_cell rfl ?_ | refine ld_whole rfl ?_ | refine ld_elem rfl ?_ | refine ld_part rfl rfl ?_) | fail) | (apply ks_asgn; refine s_asgn rfl rfl ?_) | (apply ks_indexA; first | refine s_indexA (c_indexAddr rfl rfl rfl rfl (by omega) (by omega)) rfl ?_ | fail) | (apply ks_fn; first | fail) | (apply ks_bi; first | fail | refine s_call (c_len rfl rfl) rfl ?_ | refine s_call (c_len_str rfl rfl) rfl ?_ | refine s_call (c_bi rfl rfl rfl rfl) rfl ?_ | refine c_append rfl rfl rfl rfl (by first | rfl | simp [ints]) (by first | rfl | exact ints_one _ | exact octs_one _ | exact strs_one _) (by omega) rfl rfl (fun _ _ => ?_) | refine c_append_nil rfl rfl rfl rfl (by first | rfl | simp [ints]) (by first | rfl | exact ints_one _ | exact octs_one _ | exact strs_one _) (by omega) rfl rfl (fun _ _ => ?_)) | fail) | (apply sw_seq) | (apply at_srd) | (apply sw_skip) | (apply sw_ret) | (apply sw_exit) | (apply sw_block) | (apply sw_region) | (refine sw_cd rfl ?_; first | (apply gd_t) | (apply gd_ft) | (apply gd_tf) | (apply gd_dec_t <;> intro hq <;> (try (exfalso; omega))) | (apply gd_dec_f <;> intro hq <;> (try (exfalso; omega))) | (apply gd_beq_t <;> intro hq <;> (try (exfalso; omega))) | (apply gd_beq_f <;> intro hq <;> (try (exfalso; omega))) | (apply gd_bne_t <;> intro hq <;> (try (exfalso; omega))) | (apply gd_bne_f <;> intro hq <;> (try (exfalso; omega))) | (apply gd_not_t <;> intro hq) | (apply gd_not_f <;> intro hq) | (apply gd_raw_t <;> intro hq) | (apply gd_raw_f <;> intro hq)) | (apply at_thn) | (apply at_thn_ret) | (apply at_thn_exit) | (apply at_inb) | (apply at_inb_ret) | (apply at_inb_exit) | refine at_inb_pass rfl ?_ | refine c_drawn (by kernel_rfl) ?_)
  refine sw_loopg (α := Nat) (fun i => [(0, .slice a n c), (1, .int .i64 w), (6, .int .i64 (refWidths (xs.take i))), (9, .slice a n c), (10, .int .i64 n), (11, .int .i64 i)]) (fun _ => H)
    (fun i => i ≤ n ∧ refWidths (xs.take i) ≤ w) (fun i => n - i) 0 ⟨Nat.zero_le _, by simpa [refWidths] using hw.1⟩ (by simp only [List.take_zero]; exact (by repeat (first | exact Le.nil _ | refine Le.cons (by first | rfl | (exact congrArg some (congrArg (Value.int _) (by omega)))) ?_))) (fun _ hw => hw.subs (by repeat (first | refine Subs.cons (by repeat constructor) ?_ | exact Subs.sub (by repeat (first | exact List.Sublist.refl _ | exact List.nil_sublist _ | refine List.Sublist.cons _ ?_))))) ?_
  rintro i ⟨hi, hs⟩
  have hb := refWidths_bd (xs.take i)
  have hlk : (xs.take i).length ≤ i := List.length_take_le _ _
  by_cases hlt : (i : Int) < n
  · have hxi := Hx.out i (by omega)
    have hb2 := refWidth_bd (xs.getD i 0)
    have hsu := refWidths_succ xs i (by rw [← Hn.out]; omega)
    have hat := fun h2 => Hk.out.at (by rw [← Hn.out]; omega) hs h2
    have Hsu := Lib.hid hsu
    have Hat := Lib.hid hat
    clear hsu hat
    repeat' (first | (apply g_sl; first | (apply ks_nil; refine sl_nil ?_) | (apply ks_move; refine s_move rfl rfl ?_) | (apply ks_bin; refine s_bin rfl rfl rfl ?_; first | first | (refine s_indexA (c_indexAddr rfl rfl rfl hlx (by omega) (by omega)) rfl ?_) | (refine s_load rfl rfl ?_; refine ld_elem hxi ?_) | (first | (apply kb_add; first | refine bb_add ⟨by omega, by omega⟩ ?_ | refine bb_of rfl ?_) | refine bb_of rfl ?_)) | (apply ks_load; first | (refine s_load rfl rfl ?_; first | refine ld_cell rfl ?_ | refine ld_whole rfl ?_ | refine ld_elem rfl ?_ | refine ld_part rfl rfl ?_) | first | (refine s_indexA (c_indexAddr rfl rfl rfl hlx (by omega) (by omega)) rfl ?_) | (refine s_load rfl rfl ?_; refine ld_elem hxi ?_)) | (apply ks_asgn; refine s_asgn rfl rfl ?_) | (apply ks_indexA; first | refine s_indexA (c_indexAddr rfl rfl rfl rfl (by omega) (by omega)) rfl ?_ | first | (refine s_indexA (c_indexAddr rfl rfl rfl hlx (by omega) (by omega)) rfl ?_) | (refine s_load rfl rfl ?_; refine ld_elem hxi ?_)) | (apply ks_fn; first | refine c_callv rfl rfl rfl (hone _ _) rfl rfl ?_) | (apply ks_bi; first | first | (refine s_indexA (c_indexAddr rfl rfl rfl hlx (by omega) (by omega)) rfl ?_) | (refine s_load rfl rfl ?_; refine ld_elem hxi ?_) | refine s_call (c_len rfl rfl) rfl ?_ | refine s_call (c_len_str rfl rfl) rfl ?_ | refine s_call (c_bi rfl rfl rfl rfl) rfl ?_ | refine c_append rfl rfl rfl rfl (by first | rfl | simp [ints]) (by first | rfl | exact ints_one _ | exact octs_one _ | exact strs_one _) (by omega) rfl rfl (fun _ _ => ?_) | refine c_append_nil rfl rfl rfl rfl (by first | rfl | simp [ints]) (by first | rfl | exact ints_one _ | exact octs_one _ | exact strs_one _) (by omega) rfl rfl (fun _ _ => ?_)) | first | (refine s_indexA (c_indexAddr rfl rfl rfl hlx (by omega) (by omega)) rfl ?_) | (refine s_load rfl rfl ?_; refine ld_elem hxi ?_)) | (apply sw_seq) | (apply at_srd) | (apply sw_skip) | (apply sw_ret) | (apply sw_exit) | (apply sw_block) | (apply sw_region) | (refine sw_cd rfl ?_; first | (apply gd_t) | (apply gd_ft) | (apply gd_tf) | (apply gd_dec_t <;> intro hq <;> (try (exfalso; omega))) | (apply gd_dec_f <;> intro hq <;> (try (exfalso; omega))) | (apply gd_beq_t <;> intro hq <;> (try (exfalso; omega))) | (apply gd_beq_f <;> intro hq <;> (try (exfalso; omega))) | (apply gd_bne_t <;> intro hq <;> (try (exfalso; omega))) | (apply gd_bne_f <;> intro hq <;> (try (exfalso; omega))) | (apply gd_not_t <;> intro hq) | (apply gd_not_f <;> intro hq) | (apply gd_raw_t <;> intro hq) | (apply gd_raw_f <;> intro hq)) | (apply at_thn) | (apply at_thn_ret) | (apply at_thn_exit) | (apply at_inb) | (apply at_inb_ret) | (apply at_inb_exit) | refine at_inb_pass rfl ?_ | refine c_drawn (by kernel_rfl) ?_)
    · obtain rfl := Hat.out (by omega)
      refine e_sv (by first | exact .inl rfl | exact .inr rfl) rfl (by repeat (first | exact List.Sublist.refl _ | exact List.nil_sublist _ | refine List.Sublist.cons _ ?_)) ?_
      rfl
    · refine at_meet (i + 1) ⟨⟨by omega, by rw [Hsu.out]; omega⟩, by omega⟩ ?_ (fun _ hw => hw.subs (by repeat (first | refine Subs.cons (by repeat constructor) ?_ | exact Subs.sub (by repeat (first | exact List.Sublist.refl _ | exact List.nil_sublist _ | refine List.Sublist.cons _ ?_)))))
      rw [Hsu.out]; exact (by repeat (first | exact Le.nil _ | refine Le.cons (by first | rfl | (exact congrArg some (congrArg (Value.int _) (by omega)))) ?_))
  · repeat' (first | (apply g_sl; first | (apply ks_nil; refine sl_nil ?_) | (apply ks_move; refine s_move rfl rfl ?_) | (apply ks_bin; refine s_bin rfl rfl rfl ?_; first | fail | (first | (apply kb_add; first | refine bb_add ⟨by omega, by omega⟩ ?_ | refine bb_of rfl ?_) | refine bb_of rfl ?_)) | (apply ks_load; first | (refine s_load rfl rfl ?_; first | refine ld_cell rfl ?_ | refine ld_whole rfl ?_ | refine ld_elem rfl ?_ | refine ld_part rfl rfl ?_) | fail) | (apply ks_asgn; refine s_asgn rfl rfl ?_) | (apply ks_indexA; first | refine s_indexA (c_indexAddr rfl rfl rfl rfl (by omega) (by omega)) rfl ?_ | fail) | (apply ks_fn; first | fail) | (apply ks_bi; first | fail | refine s_call (c_len rfl rfl) rfl ?_ | refine s_call (c_len_str rfl rfl) rfl ?_ | refine s_call (c_bi rfl rfl rfl rfl) rfl ?_ | refine c_append rfl rfl rfl rfl (by first | rfl | simp [ints]) (by first | rfl | exact ints_one _ | exact octs_one _ | exact strs_one _) (by omega) rfl rfl (fun _ _ => ?_) | refine c_append_nil rfl rfl rfl rfl (by first | rfl | simp [ints]) (by first | rfl | exact ints_one _ | exact octs_one _ | exact strs_one _) (by omega) rfl rfl (fun _ _ => ?_)) | fail) | (apply sw_seq) | (apply at_srd) | (apply sw_skip) | (apply sw_ret) | (apply sw_exit) | (apply sw_block) | (apply sw_region) | (refine sw_cd rfl ?_; first | (apply gd_t) | (apply gd_ft) | (apply gd_tf) | (apply gd_dec_t <;> intro hq <;> (try (exfalso; omega))) | (apply gd_dec_f <;> intro hq <;> (try (exfalso; omega))) | (apply gd_beq_t <;> intro hq <;> (try (exfalso; omega))) | (apply gd_beq_f <;> intro hq <;> (try (exfalso; omega))) | (apply gd_bne_t <;> intro hq <;> (try (exfalso; omega))) | (apply gd_bne_f <;> intro hq <;> (try (exfalso; omega))) | (apply gd_not_t <;> intro hq) | (apply gd_not_f <;> intro hq) | (apply gd_raw_t <;> intro hq) | (apply gd_raw_f <;> intro hq)) | (apply at_thn) | (apply at_thn_ret) | (apply at_thn_exit) | (apply at_inb) | (apply at_inb_ret) | (apply at_inb_exit) | refine at_inb_pass rfl ?_ | refine c_drawn (by kernel_rfl) ?_)
    obtain rfl : i = n := by omega
    obtain rfl := Hk.out.last (by rw [← Hn.out]; exact hs)
    refine e_sv (by first | exact .inl rfl | exact .inr rfl) rfl (by repeat (first | exact List.Sublist.refl _ | exact List.nil_sublist _ | refine List.Sublist.cons _ ?_)) ?_
    rw [Hn.out]; rfl
end Go.Proofs.Ytgcnfcgnkfkpeaa
