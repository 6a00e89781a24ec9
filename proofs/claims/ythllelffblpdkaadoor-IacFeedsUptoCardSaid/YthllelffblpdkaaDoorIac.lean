/- iac.Escape, iac.Write, farref.TokText, iac.Merge, farref.Merged: walks. -/
import Derived.Test.YthllelffblpdkaaDoorIacP
import Derived.Test.YthllelffblpdkaaDoorNvt2
import Derived.Test.YthllelffblpdkaaDoorBet
import Derived.Test.YthllelffblpdkaaDoorSlc4
import Derived.Test.YthllelffblpdkaaDoorSxC
namespace Go.Proofs.YthllelffblpdkaaDoor
open Go Go.RowKit Go.Fw Go.Sx
set_option maxRecDepth 100000
set_option maxHeartbeats 1000000
abbrev tokV (k c o : Int) (d : ByteArray) : Value := .agg #[.int .i64 k, .int .i64 c, .int .i64 o, .string d]
/-- Are two tokens the same? -/
theorem tokEqD (dd : Nat) (k c o k' c' o' : Int) (d d' : ByteArray) (b : Bool) (h : b = decide (k = k' ∧ c = c' ∧ o = o' ∧ d = d')) : EqVal Tryd.prog (dd + 1 + 1) 118 (.agg [.int .i64 k, .int .i64 c, .int .i64 o, .string d].toArray) (.agg [.int .i64 k', .int .i64 c', .int .i64 o', .string d'].toArray) b := by
  have hfs : Tryd.prog.fieldsOf 118 = (match Tryd.prog.underlying 118 with | some (.struct fs) => fs | _ => #[]) := rfl
  refine eqval_struct (d := dd + 1) (by rw [hfs, Tryd.underlying118]) (by kernel_rfl) ?_
  rw [hfs, Tryd.underlying118]
  have ne : ∀ a b : Int, ¬ a = b → EqVal Tryd.prog (dd + 1) 3 (.int .i64 a) (.int .i64 b) false := fun a b hab => by
    have := eqval_int (P := Tryd.prog) (t := 3) (d := dd) (k := .i64) a b
    rwa [show (a == b) = false from by simpa using hab] at this
  by_cases hx : k = k'
  · subst hx
    refine .eq (by decide) (u := .int .i64 k) (v := .int .i64 k) (part_one rfl) (part_one rfl) (eqself_int _) ?_
    by_cases hy : c = c'
    · subst hy
      refine .eq (by decide) (u := .int .i64 c) (v := .int .i64 c) (part_one rfl) (part_one rfl) (eqself_int _) ?_
      by_cases hz : o = o'
      · subst hz
        refine .eq (by decide) (u := .int .i64 o) (v := .int .i64 o) (part_one rfl) (part_one rfl) (eqself_int _) ?_
        by_cases hd : d = d'
        · subst hd
          rw [h, decide_eq_true ⟨rfl, rfl, rfl, rfl⟩]
          exact .eq (by decide) (u := .string d) (v := .string d) (part_one rfl) (part_one rfl) (eqself_str _) .nil
        · rw [h, decide_eq_false (by simp [hd])]
          have hs := eqval_str (P := Tryd.prog) (t := 9) (d := dd) d d'
          rw [str_beq, decide_eq_false hd] at hs
          exact .ne (by decide) (u := .string d) (v := .string d') (part_one rfl) (part_one rfl) hs
      · rw [h, decide_eq_false (by simp [hz])]
        exact .ne (by decide) (u := .int .i64 o) (v := .int .i64 o') (part_one rfl) (part_one rfl) (ne _ _ hz)
    · rw [h, decide_eq_false (by simp [hy])]
      exact .ne (by decide) (u := .int .i64 c) (v := .int .i64 c') (part_one rfl) (part_one rfl) (ne _ _ hy)
  · rw [h, decide_eq_false (by simp [hx])]
    exact .ne (by decide) (u := .int .i64 k) (v := .int .i64 k') (part_one rfl) (part_one rfl) (ne _ _ hx)
theorem tokEq (k c o k' c' o' : Int) (d d' : ByteArray) : EqVal Tryd.prog 10000 118 (.agg [.int .i64 k, .int .i64 c, .int .i64 o, .string d].toArray) (.agg [.int .i64 k', .int .i64 c', .int .i64 o', .string d'].toArray) (decide (k = k' ∧ c = c' ∧ o = o' ∧ d = d')) := tokEqD 9998 k c o k' c' o' d d' _ rfl
attribute [local irreducible] SW SL SQ AtQ SV SC BB LD PK Yields SO SOT SOA SY
theorem repl255_sv (G : Ctx) (H : List Ent) (m : Int) (hm : ∀ w, Holds G H w → w.cell? ⟨2, 0, none⟩ = some (.int .i64 m)) (d : ByteArray) (hd : d.size ≤ 4000000) : SV Tryd.prog G 115 [.string d, .string ⟨#[255]⟩, .string ⟨#[255, 255]⟩] H (.string (escS d)) :=
  replAll_sv G H m hm d hd 255 [255, 255] (Nat.le_refl _) (by decide)
end Go.Proofs.YthllelffblpdkaaDoor
