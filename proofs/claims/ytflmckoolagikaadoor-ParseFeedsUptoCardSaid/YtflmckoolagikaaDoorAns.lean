/- choice.Answer: its walk. -/
import Derived.Test.YtflmckoolagikaaDoorAnsP
import Derived.Test.YtflmckoolagikaaDoorCho2
namespace Go.Proofs.YtflmckoolagikaaDoor
open Go Go.RowKit Go.Fw Go.Sx
set_option maxRecDepth 100000
set_option maxHeartbeats 1000000
theorem sc_mk {P : Program} {G : Ctx} {f : FuncId} {args : List Value} {H : List Ent} {R : Value → List Ent → Prop} (hc : Sx.Callee P f) (h : ∀ w, Holds G H w → Calls P f args.toArray w fun e w' => ∃ v H', e = .returned v ∧ Holds G H' w' ∧ R v H') : SC P G f args H R := ⟨hc, h⟩
attribute [local irreducible] SW SL SQ AtQ SV SC BB LD PK Yields SO SOT SOA SY
theorem answerS_no {M : List ByteArray} {d : ByteArray} (h : ¬ formD d) : answerS M d = (⟨#[]⟩, ⟨#[]⟩, 4) := if_neg h
theorem answerS_yes {M : List ByteArray} {d : ByteArray} (h : formD d) : answerS M d = choose (reqW d) M := if_pos h
theorem cat_two (n : ByteArray) : (⟨#[2]⟩ : ByteArray) ++ n = strOfNums [2] ++ n := rfl
theorem mark_one (d : ByteArray) (h : 2 ≤ d.size) : d.extract 1 2 = (⟨#[UInt8.ofNat ((nums d).getD 1 0).toNat]⟩ : ByteArray) := by
  have hx : ((nums d).getD 1 0).toNat = (d.data.toList.getD 1 0).toNat := by
    have h1 : 1 < d.data.toList.length := h
    simp [nums, List.getD_eq_getElem?_getD, List.getElem?_eq_getElem h1]
  rw [hx, UInt8.ofNat_toNat]
  have h1 : 1 < d.data.toList.length := h
  apply nums_inj
  rw [nums_extract]
  simp only [nums, List.getD_eq_getElem?_getD, List.getElem?_eq_getElem h1, Option.getD_some]
  rw [List.drop_eq_getElem_cons (by simpa using h1)]
  simp
theorem split_sc (G : Ctx) (H : List Ent) (m : Int) (hm : ∀ w, Holds G H w → w.cell? ⟨2, 0, none⟩ = some (.int .i64 m)) (s : ByteArray) (c : UInt8) (hs : s.size ≤ 4000000) : SC Tryd.prog G 48 [.string s, .string ⟨#[c]⟩] H fun v H' => ∃ b, v = .slice (some ⟨b, 0, none⟩) (wordsB c s).length (wordsB c s).length ∧ H' = .blk b 9 (strs (wordsB c s)) :: H := by
  refine sc_mk (callee_of Tryd.func48 rfl rfl) fun w hw => ?_
  have h := Tryd.strings_Split s ⟨#[c]⟩ m w (by omega) (hm w hw) (Nat.le_refl 1)
  rw [countB_words, splitB_words] at h
  exact h.mono fun e w' ⟨he, hw'⟩ => ⟨_, _, he, hw' ▸ hw.alloc _ _, _, rfl, rfl⟩
end Go.Proofs.YtflmckoolagikaaDoor
