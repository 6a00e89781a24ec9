/- grid.ScrollIn: its walk. -/
import Derived.Test.YtgcnfcgnkfkpeaaGrid22
import Derived.Test.YtgcnfcgnkfkpeaaGrid15
namespace Go.Sx
open Go Go.RowKit Go.Fw
instance (priority := low) pickOwnApp {A H H' : List Ent} {a : Option Addr} {e : TypeId} {sz n c : Nat} {xs : List Value} [h : PickOwn H a e sz n c xs H'] : PickOwn (A ++ H) a e sz n c xs (A ++ H') := ⟨h.here.app A⟩
end Go.Sx
namespace Go.Fw
open Go Go.RowKit Go.Sx
theorem over_row {L : List (List Qd)} {k w : Nat} {R : List Qd} (hL : ∀ r ∈ L, r.length = w) (hk : k < L.length) (hR : R.length = w) : over (qds L.flatten) (k * w * 4) (qds R) = qds (L.set k R).flatten := by
  have hA := flat_take hL (k := k) (by omega)
  have hLk : (L[k]).length = w := hL _ (List.getElem_mem hk)
  rw [over_qds, flat_split (List.getElem?_eq_getElem hk), flat_set _ hk, hR]
  generalize (L.take k).flatten = A at *
  generalize (L.drop (k + 1)).flatten = S
  generalize L[k] = B at *
  congr 1
  have t1 : (A ++ B ++ S).take (k * w) = A := by rw [List.append_assoc, ← hA, List.take_left]
  have t2 : (A ++ B ++ S).drop (k * w + w) = S := by
    rw [List.append_assoc, ← List.drop_drop, ← hA, List.drop_left, ← hLk, List.drop_left]
  rw [t1, t2]
theorem genL_mem {α : Type} {d : α} {L : List α} {f t : Nat} {g : Nat → α} {Pr : α → Prop} (h1 : ∀ x ∈ L, Pr x) (h2 : ∀ i, i < L.length → Pr (g i)) : ∀ x ∈ genL d L f t g, Pr x := fun x hx => by
  obtain ⟨i, hi, rfl⟩ := List.mem_map.1 hx
  have hi := List.mem_range.1 hi
  by_cases h : f ≤ i ∧ i < t
  · rw [if_pos h]; exact h2 i hi
  · rw [if_neg h]
    exact h1 _ (List.mem_of_getElem? (getD_some d hi))
theorem shG_all {α : Type} {d : α} {L : List α} {f t : Nat} {n : Int} {q : α} {Pr : α → Prop} (h1 : ∀ x ∈ L, Pr x) (h2 : Pr q) (ht : t ≤ L.length) : ∀ i, Pr (shG d L f t n q i) := fun i => by
  unfold shG
  by_cases h : (f : Int) ≤ (i : Int) - n ∧ (i : Int) - n < t
  · rw [if_pos h]
    exact h1 _ (List.mem_of_getElem? (getD_some d (by omega)))
  · rw [if_neg h]; exact h2
end Go.Fw
namespace Go.Proofs.Ytgcnfcgnkfkpeaa
open Go Go.RowKit Go.Fw Go.Sx
set_option maxRecDepth 100000
set_option maxHeartbeats 1000000
attribute [local irreducible] SW SL SQ AtQ SV SC BB LD PK Yields SO SOT SOA SY
def rowsL (C : List Qd) (w h : Nat) : List (List Qd) := (List.range h).map (rowQ w C)
theorem rowsL_len (C : List Qd) (w h : Nat) : (rowsL C w h).length = h := by simp [rowsL]
theorem rowsL_w {C : List Qd} {w h : Nat} (hC : C.length = w * h) : ∀ r ∈ rowsL C w h, r.length = w := fun r hr => by
  obtain ⟨k, hk, rfl⟩ := List.mem_map.1 hr
  exact rowQ_len (List.mem_range.1 hk) hC
theorem rowsL_flat {C : List Qd} {w h : Nat} (hC : C.length = w * h) : (rowsL C w h).flatten = C := by
  have key : ∀ m, m ≤ h → ((List.range m).map (rowQ w C)).flatten = C.take (m * w) := by
    intro m
    induction m with
    | zero => intro _; simp
    | succ m ih =>
      intro hm
      rw [List.range_succ, List.map_append, List.flatten_append, ih (by omega), Nat.succ_mul, List.take_add]
      simp [rowQ]
  unfold rowsL
  rw [key h (Nat.le_refl _), List.take_of_length_le (by rw [hC, Nat.mul_comm]; exact Nat.le_refl _)]
theorem rowsL_piece {C : List Qd} {w h f t : Nat} (hft : f ≤ t) (ht : t ≤ h) : ((rowsL C w h).drop f).take (t - f) = (List.range (t - f)).map fun i => rowQ w C (f + i) := by
  apply List.ext_getElem?
  intro i
  rcases Nat.lt_or_ge i (t - f) with hi | hi
  · rw [List.getElem?_take_of_lt hi, List.getElem?_drop, rowsL, List.getElem?_map, List.getElem?_range (by omega), List.getElem?_map, List.getElem?_range hi]
    rfl
  · rw [List.getElem?_eq_none (by simp; omega), List.getElem?_eq_none (by simp; omega)]
/-- The cells behind a Scroll. -/
def scrR (C : List Qd) (w h f t : Nat) (s : Int) (q : Qd) : List (List Qd) := genL [] (rowsL C w h) f t (shG [] (rowsL C w h) f t (-s) (List.replicate w q))
def scrC (C : List Qd) (w h f t : Nat) (s : Int) (q : Qd) : List Qd := (scrR C w h f t s q).flatten
theorem row_rd (G : Ctx) (H : List Ent) (C : List Qd) (b w h n c k : Nat) (hC : C.length = w * h) (hw : 1 ≤ w) (hk : k < h) : RdC G (.own 104 4 (some ⟨b, 0, none⟩) n c (qds C) :: H) (some ⟨b, k * w * 4, none⟩) (qds (rowQ w C k)) := by
  have hr := row_mul (w := w) (h := h) (k := k) (n := C.length) hk hC
  have hl := rowQ_len hk hC
  have e : qds C = qds (C.take (k * w)) ++ qds (rowQ w C k) ++ qds (C.drop (k * w + w)) := split3' C (k * w) w
  rw [e]
  exact rd_pre (rd_off (G := G) (e := 104) (sz := 4) (len := n) (c := c) (b := b) (us := []) (H := H) (k * w * 4) (by rw [qds_len, List.length_take]; omega) (by rw [qds_len, hl]; omega))
theorem scrollIn_sc (G : Ctx) (H : List Ent) (C : List Qd) (b w h n c f t : Nat) (s x y z : Int) (hn : n = C.length) (hC : C.length = w * h) (hm : n ≤ 100000) (hnc : n ≤ c) (hw : 1 ≤ w ∧ w ≤ 160) (hh : h ≤ 60) (hft : f ≤ t) (ht : t ≤ h) (hs : -16383 ≤ s ∧ s ≤ 16383) : SC Try.prog G 107 [gridV w h (some ⟨b, 0, none⟩) n c, .int .i64 f, .int .i64 t, .int .i64 s, penV x y z] (.own 104 4 (some ⟨b, 0, none⟩) n c (qds C) :: H) fun v H' => v = .tuple #[] ∧ H' = .own 104 4 (some ⟨b, 0, none⟩) n c (qds (scrC C w h f t s (32, x, y, z))) :: H := by
  have e1 := fun k : Nat => show (k : Int) * (w : Int) = ((k * w : Nat) : Int) from by simp
  have e2 := fun k : Nat => show ((k : Int) + 1) * (w : Int) = ((k * w + w : Nat) : Int) from by rw [Int.add_mul]; simp
  have hkW := fun (k : Nat) (hk : k < h) => row_mul (w := w) (h := h) (k := k) (n := n) hk (by omega)
  have cO := fun (H : List Ent) (k : Nat) (hk : k < h) => gridRowAt_sv G H b w h n c k (k * w) (e1 k) (e2 k) hm (hkW k hk) hnc hw.1 (by omega)
  have hrd := fun (k : Nat) (hk : k < h) (H : List Ent) => row_rd G H C b w h n c k hC hw.1 hk
  have cC := fun (H : List Ent) (k : Nat) (hk : k < h) (a : Option Addr) (c' : Nat) {vs : List Value} [RdC G H a vs] (hv : vs = qds (rowQ w C k)) => cloneQ_sc G H (rowQ w C k) a w c' hv (rowQ_len hk hC).symm (by omega)
  have hRl := fun (k : Nat) (hk : k < h) => rowQ_len (w := w) (h := h) (k := k) (C := C) hk hC
  have Hn := Lib.hid hn
  have HC := Lib.hid hC
  clear hn hC e1 e2
  refine sc_enter5 Try.func107 rfl rfl rfl rfl rfl ?_
  repeat' (first | (apply g_sl; first | (apply ks_nil; refine sl_nil ?_) | (apply ks_move; refine s_move rfl rfl ?_) | (apply ks_bin; refine s_bin rfl rfl rfl ?_; first | fail | (first | (apply kb_add; first | refine bb_add ⟨by omega, by omega⟩ ?_ | refine bb_of rfl ?_) | refine bb_of rfl ?_)) | (apply ks_load; first | (refine s_load rfl rfl ?_; first | refine ld_cell rfl ?_ | refine ld_whole rfl ?_ | refine ld_elem rfl ?_ | refine ld_part rfl rfl ?_) | fail) | (apply ks_asgn; refine s_asgn rfl rfl ?_) | (apply ks_un; refine s_un (y_un rfl rfl rfl) rfl ?_) | (apply ks_indexA; first | refine s_indexA (c_indexAddr rfl rfl rfl rfl (by omega) (by omega)) rfl ?_ | fail) | (apply ks_fn; first | fail) | (apply ks_bi; first | fail | refine s_call (c_len rfl rfl) rfl ?_ | refine s_call (c_len_str rfl rfl) rfl ?_ | refine s_call (c_bi rfl rfl rfl rfl) rfl ?_ | refine c_append rfl rfl rfl rfl (by first | rfl | simp [ints]) (by first | rfl | exact ints_one _ | exact octs_one _ | exact strs_one _) (by omega) rfl rfl (fun _ _ => ?_) | refine c_append_nil rfl rfl rfl rfl (by first | rfl | simp [ints]) (by first | rfl | exact ints_one _ | exact octs_one _ | exact strs_one _) (by omega) rfl rfl (fun _ _ => ?_)) | (apply ks_box; refine c_box rfl rfl rfl rfl rfl rfl (fun _ => ?_)) | (apply ks_bs; first | refine c_buildSlice rfl rfl rfl rfl rfl rfl rfl rfl rfl rfl (fun _ => ?_) | fail) | fail) | (apply sw_seq) | (apply at_srd) | (apply sw_skip) | (apply sw_ret) | (apply sw_exit) | (apply sw_block) | (apply sw_region) | (refine sw_cd rfl ?_; first | (apply gd_t) | (apply gd_ft) | (apply gd_tf) | (apply gd_dec_t <;> intro hq <;> (try (exfalso; omega))) | (apply gd_dec_f <;> intro hq <;> (try (exfalso; omega))) | (apply gd_beq_t <;> intro hq <;> (try (exfalso; omega))) | (apply gd_beq_f <;> intro hq <;> (try (exfalso; omega))) | (apply gd_bne_t <;> intro hq <;> (try (exfalso; omega))) | (apply gd_bne_f <;> intro hq <;> (try (exfalso; omega))) | (apply gd_not_t <;> intro hq) | (apply gd_not_f <;> intro hq) | (apply gd_raw_t <;> intro hq) | (apply gd_raw_f <;> intro hq)) | (apply at_thn) | (apply at_thn_ret) | (apply at_thn_exit) | (apply at_inb) | (apply at_inb_ret) | (apply at_inb_exit) | refine at_inb_pass rfl ?_ | refine c_drawn (by kernel_rfl) ?_)
  rename_i b5 b9
  refine sw_loopg (α := List Rw × List Ent × Option Addr × Nat) (fun g => [(1, .int .i64 f), (2, .int .i64 t), (3, .int .i64 s), (5, .pointer (some ⟨b5, 0, none⟩)), (9, .pointer (some ⟨b9, 0, none⟩)), (10, .slice g.2.2.1 g.1.length g.2.2.2), (11, .int .i64 ((f + g.1.length : Nat) : Int))])
    (fun g => .own 33 1 g.2.2.1 g.1.length g.2.2.2 (g.1.map rwV) :: .own 104 4 (some ⟨b, 0, none⟩) n c (qds C) :: .blk b9 37 [.int .i64 x, .int .i64 y, .int .i64 z] :: .blk b5 35 [.int .i64 w, .int .i64 h, .slice (some ⟨b, 0, none⟩) n c] :: (g.2.1 ++ H))
    (fun g => g.1.length ≤ t - f ∧ g.1.map (·.2.2) = (List.range g.1.length).map (fun i => rowQ w C (f + i)) ∧ RdX qds G (g.2.1 ++ H) g.1) (fun g => t - f - g.1.length) ([], [], none, 0) ⟨Nat.zero_le _, rfl, RdX.nil⟩ (by repeat (first | exact Le.nil _ | refine Le.cons (by first | rfl | (exact congrArg some (congrArg (Value.int _) (by omega)))) ?_)) ?_ ?_
  · exact fun _ hw => (hw.subs (by repeat (first | refine Subs.cons (by repeat constructor) ?_ | exact Subs.sub (by repeat (first | exact List.Sublist.refl _ | exact List.nil_sublist _ | refine List.Sublist.cons _ ?_))))).nilrow _ _
  rintro ⟨X, E, ar, cr⟩ ⟨hi, hX, hXr⟩
  dsimp only at hi hX hXr ⊢
  generalize hXl : X.length = i at *
  have hone := rwV_one X
  by_cases hlt : ((f + i : Nat) : Int) < t
  · have hk : f + i < h := by omega
    have cOi := fun H => cO H (f + i) hk
    have cCi := fun (H : List Ent) (a : Option Addr) (c' : Nat) {vs : List Value} [RdC G H a vs] (hv : vs = qds (rowQ w C (f + i))) => cC H (f + i) hk a c' hv
    haveI := hrd (f + i) hk
    have hRi := hRl (f + i) hk
    clear cO cC hrd hkW hRl
    generalize hRR : rowQ w C (f + i) = R at *
    generalize hKK : f + i = k at *
    repeat' (first | (apply g_sl; first | (apply ks_nil; refine sl_nil ?_) | (apply ks_move; refine s_move rfl rfl ?_) | (apply ks_bin; refine s_bin rfl rfl rfl ?_; first | first | refine c_buildSlice rfl rfl rfl rfl rfl rfl rfl rfl rfl rfl (fun _ => ?_) | (refine c_append rfl rfl rfl rfl rfl rfl (by omega) rfl rfl (fun _ _ => ?_)) | (first | (apply kb_add; first | refine bb_add ⟨by omega, by omega⟩ ?_ | refine bb_of rfl ?_) | refine bb_of rfl ?_)) | (apply ks_load; first | (refine s_load rfl rfl ?_; first | refine ld_cell rfl ?_ | refine ld_whole rfl ?_ | refine ld_elem rfl ?_ | refine ld_part rfl rfl ?_) | first | refine c_buildSlice rfl rfl rfl rfl rfl rfl rfl rfl rfl rfl (fun _ => ?_) | (refine c_append rfl rfl rfl rfl rfl rfl (by omega) rfl rfl (fun _ _ => ?_))) | (apply ks_asgn; refine s_asgn rfl rfl ?_) | (apply ks_un; refine s_un (y_un rfl rfl rfl) rfl ?_) | (apply ks_indexA; first | refine s_indexA (c_indexAddr rfl rfl rfl rfl (by omega) (by omega)) rfl ?_ | first | refine c_buildSlice rfl rfl rfl rfl rfl rfl rfl rfl rfl rfl (fun _ => ?_) | (refine c_append rfl rfl rfl rfl rfl rfl (by omega) rfl rfl (fun _ _ => ?_))) | (apply ks_fn; first | first | refine c_callv rfl rfl rfl (cOi _) rfl rfl ?_ | (refine c_call rfl rfl rfl (cCi _ _ _ rfl) rfl rfl ?_; rintro _ _ ⟨a', c', rfl, rfl⟩)) | (apply ks_bi; first | first | refine c_buildSlice rfl rfl rfl rfl rfl rfl rfl rfl rfl rfl (fun _ => ?_) | (refine c_append rfl rfl rfl rfl rfl rfl (by omega) rfl rfl (fun _ _ => ?_)) | refine s_call (c_len rfl rfl) rfl ?_ | refine s_call (c_len_str rfl rfl) rfl ?_ | refine s_call (c_bi rfl rfl rfl rfl) rfl ?_ | refine c_append rfl rfl rfl rfl (by first | rfl | simp [ints]) (by first | rfl | exact ints_one _ | exact octs_one _ | exact strs_one _) (by omega) rfl rfl (fun _ _ => ?_) | refine c_append_nil rfl rfl rfl rfl (by first | rfl | simp [ints]) (by first | rfl | exact ints_one _ | exact octs_one _ | exact strs_one _) (by omega) rfl rfl (fun _ _ => ?_)) | (apply ks_box; refine c_box rfl rfl rfl rfl rfl rfl (fun _ => ?_)) | (apply ks_bs; first | refine c_buildSlice rfl rfl rfl rfl rfl rfl rfl rfl rfl rfl (fun _ => ?_) | first | refine c_buildSlice rfl rfl rfl rfl rfl rfl rfl rfl rfl rfl (fun _ => ?_) | (refine c_append rfl rfl rfl rfl rfl rfl (by omega) rfl rfl (fun _ _ => ?_))) | first | refine c_buildSlice rfl rfl rfl rfl rfl rfl rfl rfl rfl rfl (fun _ => ?_) | (refine c_append rfl rfl rfl rfl rfl rfl (by omega) rfl rfl (fun _ _ => ?_))) | (apply sw_seq) | (apply at_srd) | (apply sw_skip) | (apply sw_ret) | (apply sw_exit) | (apply sw_block) | (apply sw_region) | (refine sw_cd rfl ?_; first | (apply gd_t) | (apply gd_ft) | (apply gd_tf) | (apply gd_dec_t <;> intro hq <;> (try (exfalso; omega))) | (apply gd_dec_f <;> intro hq <;> (try (exfalso; omega))) | (apply gd_beq_t <;> intro hq <;> (try (exfalso; omega))) | (apply gd_beq_f <;> intro hq <;> (try (exfalso; omega))) | (apply gd_bne_t <;> intro hq <;> (try (exfalso; omega))) | (apply gd_bne_f <;> intro hq <;> (try (exfalso; omega))) | (apply gd_not_t <;> intro hq) | (apply gd_not_f <;> intro hq) | (apply gd_raw_t <;> intro hq) | (apply gd_raw_f <;> intro hq)) | (apply at_thn) | (apply at_thn_ret) | (apply at_thn_exit) | (apply at_inb) | (apply at_inb_ret) | (apply at_inb_exit) | refine at_inb_pass rfl ?_ | refine c_drawn (by kernel_rfl) ?_)
    rename_i _ a2 c2
    have f1 : (X ++ [((a', c', R) : Rw)]).length = i + 1 := by rw [List.length_append, hXl]; rfl
    have f2 : (X ++ [((a', c', R) : Rw)]).map rwV = X.map rwV ++ [.slice a' w c'] := by
      rw [List.map_append]
      simp only [List.map_cons, List.map_nil, rwV, hRi]
    have f3 : (X ++ [((a', c', R) : Rw)]).map (·.2.2) = (List.range (i + 1)).map (fun i => rowQ w C (f + i)) := by
      rw [List.map_append, hX, List.range_succ, List.map_append, List.map_cons, List.map_nil, List.map_cons, List.map_nil, hKK, hRR]
    refine at_meet (X ++ [(a', c', R)], .own 104 4 a' w c' (qds R) :: E, a2, c2) ⟨⟨by dsimp only; rw [f1]; omega, by dsimp only; rw [f1]; exact f3, hXr.cons.snoc (Sl.own List.mem_cons_self rfl hRi.symm)⟩, by dsimp only; rw [f1]; omega⟩ ?_ ?_
    · dsimp only
      rw [f1]
      exact (by repeat (first | exact Le.nil _ | refine Le.cons (by first | rfl | (exact congrArg some (congrArg (Value.int _) (by omega)))) ?_))
    · dsimp only
      rw [f1, f2]
      simp only [List.cons_append]
      exact (fun _ hw => hw.subs (by repeat (first | refine Subs.cons (by repeat constructor) ?_ | exact Subs.sub (by repeat (first | exact List.Sublist.refl _ | exact List.nil_sublist _ | refine List.Sublist.cons _ ?_)))))
  · have cM := fun (H' : List Ent) (a : Option Addr) (c' : Nat) {vs : List Value} [RdC G H' a vs] (hv : vs = X.map rwV) hF => moveR_sc G H' (E ++ H) X a i c' (-s) 139 [.pointer (some ⟨b5, 0, none⟩), .pointer (some ⟨b9, 0, none⟩)] (List.replicate w (32, x, y, z)) w hv hXl.symm (by omega) ⟨by omega, by omega⟩ hXr (by simp) hF
    have hit : i = t - f := by omega
    have hP : X.map (·.2.2) = ((rowsL C w h).drop f).take (t - f) := by rw [hX, rowsL_piece hft ht, hit]
    have hmov := mov_piece ([] : List Qd) (L := rowsL C w h) (n := -s) (q := List.replicate w (32, x, y, z)) hft (by rw [rowsL_len]; exact ht)
    rw [← hP] at hmov
    have hneg : IntKind.i64.wrap (0 - s) = -s := (IntWalk.i64_in (0 - s) (by omega)).trans (by omega)
    rw [hmov] at cM
    have hrw := rowsL_w HC.out
    have hgw := shG_all (d := ([] : List Qd)) (f := f) (n := -s) (q := List.replicate w ((32, x, y, z) : Qd)) (Pr := fun r => r.length = w) hrw (by simp) (show t ≤ (rowsL C w h).length by rw [rowsL_len]; exact ht)
    have hfl0 := rowsL_flat HC.out
    have hLl := rowsL_len C w h
    have h0 : qds C = qds (genL [] (rowsL C w h) f f (shG [] (rowsL C w h) f t (-s) (List.replicate w (32, x, y, z)))).flatten := by rw [genL_0 [] (Nat.le_refl _), hfl0]
    unfold scrC scrR
    generalize shG [] (rowsL C w h) f t (-s) (List.replicate w (32, x, y, z)) = g at *
    rw [← hneg] at cM
    clear hrd cC hP hmov hX hneg
    repeat' (first | (apply g_sl; first | (apply ks_nil; refine sl_nil ?_) | (apply ks_move; refine s_move rfl rfl ?_) | (apply ks_bin; refine s_bin rfl rfl rfl ?_; first | (refine s_mkfn (y_mkfn rfl rfl rfl) rfl ?_) | (first | (apply kb_add; first | refine bb_add ⟨by omega, by omega⟩ ?_ | refine bb_of rfl ?_) | refine bb_of rfl ?_)) | (apply ks_load; first | (refine s_load rfl rfl ?_; first | refine ld_cell rfl ?_ | refine ld_whole rfl ?_ | refine ld_elem rfl ?_ | refine ld_part rfl rfl ?_) | (refine s_mkfn (y_mkfn rfl rfl rfl) rfl ?_)) | (apply ks_asgn; refine s_asgn rfl rfl ?_) | (apply ks_un; refine s_un (y_un rfl rfl rfl) rfl ?_) | (apply ks_indexA; first | refine s_indexA (c_indexAddr rfl rfl rfl rfl (by omega) (by omega)) rfl ?_ | (refine s_mkfn (y_mkfn rfl rfl rfl) rfl ?_)) | (apply ks_fn; first | (refine c_call rfl rfl rfl (cM _ _ _ rfl (fun _ => scF_sc _ _ _ _ _ _ _ _ _ _ _ _ hw)) rfl rfl ?_; rintro _ _ ⟨Y, E2, a2, c2, rfl, hYl, hY, hYr, rfl⟩)) | (apply ks_bi; first | (refine s_mkfn (y_mkfn rfl rfl rfl) rfl ?_) | refine s_call (c_len rfl rfl) rfl ?_ | refine s_call (c_len_str rfl rfl) rfl ?_ | refine s_call (c_bi rfl rfl rfl rfl) rfl ?_ | refine c_append rfl rfl rfl rfl (by first | rfl | simp [ints]) (by first | rfl | exact ints_one _ | exact octs_one _ | exact strs_one _) (by omega) rfl rfl (fun _ _ => ?_) | refine c_append_nil rfl rfl rfl rfl (by first | rfl | simp [ints]) (by first | rfl | exact ints_one _ | exact octs_one _ | exact strs_one _) (by omega) rfl rfl (fun _ _ => ?_)) | (apply ks_box; refine c_box rfl rfl rfl rfl rfl rfl (fun _ => ?_)) | (apply ks_bs; first | refine c_buildSlice rfl rfl rfl rfl rfl rfl rfl rfl rfl rfl (fun _ => ?_) | (refine s_mkfn (y_mkfn rfl rfl rfl) rfl ?_)) | (refine s_mkfn (y_mkfn rfl rfl rfl) rfl ?_)) | (apply sw_seq) | (apply at_srd) | (apply sw_skip) | (apply sw_ret) | (apply sw_exit) | (apply sw_block) | (apply sw_region) | (refine sw_cd rfl ?_; first | (apply gd_t) | (apply gd_ft) | (apply gd_tf) | (apply gd_dec_t <;> intro hq <;> (try (exfalso; omega))) | (apply gd_dec_f <;> intro hq <;> (try (exfalso; omega))) | (apply gd_beq_t <;> intro hq <;> (try (exfalso; omega))) | (apply gd_beq_f <;> intro hq <;> (try (exfalso; omega))) | (apply gd_bne_t <;> intro hq <;> (try (exfalso; omega))) | (apply gd_bne_f <;> intro hq <;> (try (exfalso; omega))) | (apply gd_not_t <;> intro hq) | (apply gd_not_f <;> intro hq) | (apply gd_raw_t <;> intro hq) | (apply gd_raw_f <;> intro hq)) | (apply at_thn) | (apply at_thn_ret) | (apply at_thn_exit) | (apply at_inb) | (apply at_inb_ret) | (apply at_inb_exit) | refine at_inb_pass rfl ?_ | refine c_drawn (by kernel_rfl) ?_)
    rw [← hit] at hY
    refine sw_loopg (α := Nat) (fun j => [(1, .int .i64 f), (5, .pointer (some ⟨b5, 0, none⟩)), (32, .slice a2 i c2), (33, .int .i64 i), (34, .int .i64 j)])
      (fun j => .own 104 4 (some ⟨b, 0, none⟩) n c (qds (genL [] (rowsL C w h) f (f + j) g).flatten) :: .own 33 1 a2 i c2 (Y.map rwV) :: .blk b5 35 [.int .i64 w, .int .i64 h, .slice (some ⟨b, 0, none⟩) n c] :: (E2 ++ (E ++ H)))
      (fun j => j ≤ i) (fun j => i - j) 0 (Nat.zero_le _) (by repeat (first | exact Le.nil _ | refine Le.cons (by first | rfl | (exact congrArg some (congrArg (Value.int _) (by omega)))) ?_)) ?_ ?_
    · rw [h0]
      refine fun _ hw => ?_
      have hw := hw.sub (List.Sublist.cons_cons _ (List.Sublist.append (List.Sublist.refl E2) (List.Sublist.cons _ (List.Sublist.cons_cons _ (List.Sublist.cons _ (List.Sublist.refl _))))))
      exact hw.perm ((List.Perm.cons _ ((List.perm_middle (l₁ := E2)).trans (List.Perm.cons _ (List.perm_middle (l₁ := E2))))).trans (List.Perm.swap _ _ _))
    intro j hj
    by_cases hlt : (j : Int) < i
    · have hk : f + j < h := by omega
      have cOj := fun H => cO H (f + j) hk
      simp only [Int.natCast_add] at cOj
      obtain ⟨⟨a1, c1, R⟩, hx⟩ := get_of (X := Y) (k := j) (by omega)
      have hR : R = g (f + j) := by
        have h5 := map_at (·.2.2) hx
        rw [hY, List.getElem?_map, List.getElem?_range (by omega), Option.map_some] at h5
        exact (Option.some.inj h5).symm
      have hRw : R.length = w := by rw [hR]; exact hgw _
      have hcell := rwV_at hx
      dsimp only at hcell
      rw [hRw] at hcell
      have hcell' : (Y.map rwV)[(j : Int).toNat * 1]? = some (.slice a1 w c1) := by rw [show (j : Int).toNat * 1 = j from by omega]; exact hcell
      have hlo : (Y.map rwV).length = i * 1 := by simp [hYl]
      haveI hrd0 := (hYr.at hx).rd
      dsimp only at hrd0
      have hql : (qds R).length = w * 4 := by rw [qds_len, hRw]
      have hone : ((qds R).take (w * 4)).all (·.oneCell') = true := by rw [qds_take]; exact qds_one _
      have hov := over_row (L := genL [] (rowsL C w h) f (f + j) g) (k := f + j) (w := w) (R := R) (genL_mem hrw (fun i _ => hgw i)) (by rw [genL_len, hLl]; exact hk) hRw
      have hov2 : over (qds (genL [] (rowsL C w h) f (f + j) g).flatten) ((f + j) * w * 4) ((qds R).take (w * 4)) = qds (genL [] (rowsL C w h) f (f + (j + 1)) g).flatten := by
        rw [List.take_of_length_le (by rw [hql]; exact Nat.le_refl _), hov, hR, genL_set [] (by omega)]
        rfl
      have hkw := hkW (f + j) hk
      clear hov hR cO hkW hY hYr hRl
      generalize hKK : f + j = k at *
      repeat' (first | (apply g_sl; first | (apply ks_nil; refine sl_nil ?_) | (apply ks_move; refine s_move rfl rfl ?_) | (apply ks_bin; refine s_bin rfl rfl rfl ?_; first | first | (refine s_indexA (c_indexAddr rfl rfl rfl hlo (by omega) (by omega)) rfl ?_) | (refine s_load rfl rfl ?_; refine ld_elem hcell' ?_) | (refine c_copyA (m := w) rfl rfl rfl rfl (by omega) (by rw [hql]; exact Nat.le_refl _) (by omega) hone rfl rfl ?_; rw [hov2]) | (first | (apply kb_add; first | refine bb_add ⟨by omega, by omega⟩ ?_ | refine bb_of rfl ?_) | refine bb_of rfl ?_)) | (apply ks_load; first | (refine s_load rfl rfl ?_; first | refine ld_cell rfl ?_ | refine ld_whole rfl ?_ | refine ld_elem rfl ?_ | refine ld_part rfl rfl ?_) | first | (refine s_indexA (c_indexAddr rfl rfl rfl hlo (by omega) (by omega)) rfl ?_) | (refine s_load rfl rfl ?_; refine ld_elem hcell' ?_) | (refine c_copyA (m := w) rfl rfl rfl rfl (by omega) (by rw [hql]; exact Nat.le_refl _) (by omega) hone rfl rfl ?_; rw [hov2])) | (apply ks_asgn; refine s_asgn rfl rfl ?_) | (apply ks_un; refine s_un (y_un rfl rfl rfl) rfl ?_) | (apply ks_indexA; first | refine s_indexA (c_indexAddr rfl rfl rfl rfl (by omega) (by omega)) rfl ?_ | first | (refine s_indexA (c_indexAddr rfl rfl rfl hlo (by omega) (by omega)) rfl ?_) | (refine s_load rfl rfl ?_; refine ld_elem hcell' ?_) | (refine c_copyA (m := w) rfl rfl rfl rfl (by omega) (by rw [hql]; exact Nat.le_refl _) (by omega) hone rfl rfl ?_; rw [hov2])) | (apply ks_fn; first | refine c_callv rfl rfl rfl (cOj _) rfl rfl ?_) | (apply ks_bi; first | first | (refine s_indexA (c_indexAddr rfl rfl rfl hlo (by omega) (by omega)) rfl ?_) | (refine s_load rfl rfl ?_; refine ld_elem hcell' ?_) | (refine c_copyA (m := w) rfl rfl rfl rfl (by omega) (by rw [hql]; exact Nat.le_refl _) (by omega) hone rfl rfl ?_; rw [hov2]) | refine s_call (c_len rfl rfl) rfl ?_ | refine s_call (c_len_str rfl rfl) rfl ?_ | refine s_call (c_bi rfl rfl rfl rfl) rfl ?_ | refine c_append rfl rfl rfl rfl (by first | rfl | simp [ints]) (by first | rfl | exact ints_one _ | exact octs_one _ | exact strs_one _) (by omega) rfl rfl (fun _ _ => ?_) | refine c_append_nil rfl rfl rfl rfl (by first | rfl | simp [ints]) (by first | rfl | exact ints_one _ | exact octs_one _ | exact strs_one _) (by omega) rfl rfl (fun _ _ => ?_)) | (apply ks_box; refine c_box rfl rfl rfl rfl rfl rfl (fun _ => ?_)) | (apply ks_bs; first | refine c_buildSlice rfl rfl rfl rfl rfl rfl rfl rfl rfl rfl (fun _ => ?_) | first | (refine s_indexA (c_indexAddr rfl rfl rfl hlo (by omega) (by omega)) rfl ?_) | (refine s_load rfl rfl ?_; refine ld_elem hcell' ?_) | (refine c_copyA (m := w) rfl rfl rfl rfl (by omega) (by rw [hql]; exact Nat.le_refl _) (by omega) hone rfl rfl ?_; rw [hov2])) | first | (refine s_indexA (c_indexAddr rfl rfl rfl hlo (by omega) (by omega)) rfl ?_) | (refine s_load rfl rfl ?_; refine ld_elem hcell' ?_) | (refine c_copyA (m := w) rfl rfl rfl rfl (by omega) (by rw [hql]; exact Nat.le_refl _) (by omega) hone rfl rfl ?_; rw [hov2])) | (apply sw_seq) | (apply at_srd) | (apply sw_skip) | (apply sw_ret) | (apply sw_exit) | (apply sw_block) | (apply sw_region) | (refine sw_cd rfl ?_; first | (apply gd_t) | (apply gd_ft) | (apply gd_tf) | (apply gd_dec_t <;> intro hq <;> (try (exfalso; omega))) | (apply gd_dec_f <;> intro hq <;> (try (exfalso; omega))) | (apply gd_beq_t <;> intro hq <;> (try (exfalso; omega))) | (apply gd_beq_f <;> intro hq <;> (try (exfalso; omega))) | (apply gd_bne_t <;> intro hq <;> (try (exfalso; omega))) | (apply gd_bne_f <;> intro hq <;> (try (exfalso; omega))) | (apply gd_not_t <;> intro hq) | (apply gd_not_f <;> intro hq) | (apply gd_raw_t <;> intro hq) | (apply gd_raw_f <;> intro hq)) | (apply at_thn) | (apply at_thn_ret) | (apply at_thn_exit) | (apply at_inb) | (apply at_inb_ret) | (apply at_inb_exit) | refine at_inb_pass rfl ?_ | refine c_drawn (by kernel_rfl) ?_)
      exact at_meet (j + 1) ⟨by omega, by omega⟩ (by repeat (first | exact Le.nil _ | refine Le.cons (by first | rfl | (exact congrArg some (congrArg (Value.int _) (by omega)))) ?_)) (fun _ hw => hw.subs (by repeat (first | refine Subs.cons (by repeat constructor) ?_ | exact Subs.sub (by repeat (first | exact List.Sublist.refl _ | exact List.nil_sublist _ | refine List.Sublist.cons _ ?_)))))
    · obtain rfl : j = i := by omega
      repeat' (first | (apply g_sl; first | (apply ks_nil; refine sl_nil ?_) | (apply ks_move; refine s_move rfl rfl ?_) | (apply ks_bin; refine s_bin rfl rfl rfl ?_; first | fail | (first | (apply kb_add; first | refine bb_add ⟨by omega, by omega⟩ ?_ | refine bb_of rfl ?_) | refine bb_of rfl ?_)) | (apply ks_load; first | (refine s_load rfl rfl ?_; first | refine ld_cell rfl ?_ | refine ld_whole rfl ?_ | refine ld_elem rfl ?_ | refine ld_part rfl rfl ?_) | fail) | (apply ks_asgn; refine s_asgn rfl rfl ?_) | (apply ks_un; refine s_un (y_un rfl rfl rfl) rfl ?_) | (apply ks_indexA; first | refine s_indexA (c_indexAddr rfl rfl rfl rfl (by omega) (by omega)) rfl ?_ | fail) | (apply ks_fn; first | fail) | (apply ks_bi; first | fail | refine s_call (c_len rfl rfl) rfl ?_ | refine s_call (c_len_str rfl rfl) rfl ?_ | refine s_call (c_bi rfl rfl rfl rfl) rfl ?_ | refine c_append rfl rfl rfl rfl (by first | rfl | simp [ints]) (by first | rfl | exact ints_one _ | exact octs_one _ | exact strs_one _) (by omega) rfl rfl (fun _ _ => ?_) | refine c_append_nil rfl rfl rfl rfl (by first | rfl | simp [ints]) (by first | rfl | exact ints_one _ | exact octs_one _ | exact strs_one _) (by omega) rfl rfl (fun _ _ => ?_)) | (apply ks_box; refine c_box rfl rfl rfl rfl rfl rfl (fun _ => ?_)) | (apply ks_bs; first | refine c_buildSlice rfl rfl rfl rfl rfl rfl rfl rfl rfl rfl (fun _ => ?_) | fail) | fail) | (apply sw_seq) | (apply at_srd) | (apply sw_skip) | (apply sw_ret) | (apply sw_exit) | (apply sw_block) | (apply sw_region) | (refine sw_cd rfl ?_; first | (apply gd_t) | (apply gd_ft) | (apply gd_tf) | (apply gd_dec_t <;> intro hq <;> (try (exfalso; omega))) | (apply gd_dec_f <;> intro hq <;> (try (exfalso; omega))) | (apply gd_beq_t <;> intro hq <;> (try (exfalso; omega))) | (apply gd_beq_f <;> intro hq <;> (try (exfalso; omega))) | (apply gd_bne_t <;> intro hq <;> (try (exfalso; omega))) | (apply gd_bne_f <;> intro hq <;> (try (exfalso; omega))) | (apply gd_not_t <;> intro hq) | (apply gd_not_f <;> intro hq) | (apply gd_raw_t <;> intro hq) | (apply gd_raw_f <;> intro hq)) | (apply at_thn) | (apply at_thn_ret) | (apply at_thn_exit) | (apply at_inb) | (apply at_inb_ret) | (apply at_inb_exit) | refine at_inb_pass rfl ?_ | refine c_drawn (by kernel_rfl) ?_)
      rw [show f + j = t from by omega]
      refine e_sc (_ :: H) (by first | exact .inl rfl | exact .inr rfl) rfl (List.Sublist.cons_cons _ (List.Sublist.cons _ (List.Sublist.cons _ ((List.sublist_append_right E H).trans (List.sublist_append_right E2 _))))) ?_
      exact ⟨rfl, rfl⟩
end Go.Proofs.Ytgcnfcgnkfkpeaa
