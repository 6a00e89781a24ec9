/- nvt.In, nvt.Out binary; farref.LineOut: walks. -/
import Derived.Test.YthllelffblpdkaaDoorNvt
import Derived.Test.YthllelffblpdkaaDoorShelf
namespace Go.Proofs.YthllelffblpdkaaDoor
open Go Go.RowKit Go.Fw Go.Sx
set_option maxRecDepth 100000
set_option maxHeartbeats 1000000
attribute [local irreducible] SW SL SQ AtQ SV SC BB LD PK Yields SO SOT SOA SY
theorem replAll_sv (G : Ctx) (H : List Ent) (m : Int) (hm : ∀ w, Holds G H w → w.cell? ⟨2, 0, none⟩ = some (.int .i64 m)) (d : ByteArray) (hd : d.size ≤ 4000000) (c : UInt8) (new : List UInt8) (hn : new.length ≤ 2) (hne : [c] ≠ new) : SV Tryd.prog G 115 [.string d, .string ⟨#[c]⟩, .string ⟨new.toArray⟩] H (.string ⟨(d.data.toList.flatMap (fun b => if b = c then new else [b])).toArray⟩) := by
  refine sv_of_calls (callee_of Tryd.func115 rfl rfl) fun w hw => ?_
  have hc : Lib.countB d ⟨#[c]⟩ ≤ d.size := Lib.countB_le ⟨#[c]⟩ (show 1 ≤ 1 from Nat.le_refl _) d.size d (Nat.le_refl _)
  have hns : (⟨new.toArray⟩ : ByteArray).size = new.length := rfl
  have hmul : Lib.countB d ⟨#[c]⟩ * (⟨new.toArray⟩ : ByteArray).size ≤ d.size * 2 := by rw [hns]; exact Nat.mul_le_mul hc hn
  have h := Tryd.strings_ReplaceAll d ⟨#[c]⟩ ⟨new.toArray⟩ m w (by omega) (hm w hw) (show 1 ≤ 1 from Nat.le_refl _) (by omega)
  rw [show (⟨#[c]⟩ : ByteArray).data.toList = [c] from rfl, show (⟨new.toArray⟩ : ByteArray).data.toList = new from List.toList_toArray, replaceAll_one c new _ hne] at h
  exact h
end Go.Proofs.YthllelffblpdkaaDoor
