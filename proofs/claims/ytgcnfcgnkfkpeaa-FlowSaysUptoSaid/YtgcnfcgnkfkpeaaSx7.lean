/- What is held, in another order and less of it. -/
import Derived.Test.YtgcnfcgnkfkpeaaSx6
namespace Go.Sx
open Go Go.RowKit Go.Fw
inductive Subs : List Ent → List Ent → Prop where
  | sub {H' H : List Ent} (h : H'.Sublist H) : Subs H' H
  | cons {x : Ent} {H' H1 H : List Ent} (hp : Pick x H H1) (h : Subs H' H1) : Subs (x :: H') H
theorem Subs.perm {H' H : List Ent} (h : Subs H' H) : ∃ H2, H'.Sublist H2 ∧ H2.Perm H := by
  induction h with
  | sub h => exact ⟨_, h, List.Perm.refl _⟩
  | cons hp _ ih =>
    obtain ⟨H2, h1, h2⟩ := ih
    exact ⟨_ :: H2, h1.cons_cons _, (List.Perm.cons _ h2).trans hp.perm.symm⟩
theorem Holds.subs {G : Ctx} {H' H : List Ent} {w : World} (h : Holds G H w) (hs : Subs H' H) : Holds G H' w := by
  obtain ⟨H2, h1, h2⟩ := hs.perm
  exact (h.perm h2.symm).sub h1
theorem ints_snoc (L : List Int) (x : Int) : ints (L ++ [x]) = ints L ++ [.int .i64 x] := by simp [ints]
theorem ints_app (L M : List Int) : ints (L ++ M) = ints L ++ ints M := by simp [ints]
theorem octs_snoc (L : List Int) (x : Int) : octs (L ++ [x]) = octs L ++ [.int .u8 x] := by simp [octs]
theorem octs_app (L M : List Int) : octs (L ++ M) = octs L ++ octs M := by simp [octs]
section
variable {P : Program} {G : Ctx} {n : Nat} {Q : Post} {s : Fm} {H : List Ent}
/-- A loop told by a ghost. -/
theorem sw_loopg {c : Code} {α : Type} (S : α → Fm) (E : α → List Ent) (I : α → Prop) (μ : α → Nat) (x0 : α) (hI : I x0) (hs : Le (S x0) s) (hH : ∀ w, Holds G H w → Holds G (E x0) w)
    (round : ∀ x, I x → SW P G n c (thn (Meet G S E fun y => I y ∧ μ y < μ x) Q) (S x) (E x)) : SW P G n (.loop c) Q s H :=
  sw_loop S E I μ x0 hI hs hH fun x hx => sw_mono (thn_mono (fun _ _ ⟨y, ⟨h1, h2⟩, h3, h4⟩ => ⟨y, h1, h2, h3, h4⟩) fun _ _ _ h => h) (round x hx)
theorem at_meet {α : Type} {S : α → Fm} {E : α → List Ent} {I : α → Prop} (y : α) (hI : I y) (hs : Le (S y) s) (hH : ∀ w, Holds G H w → Holds G (E y) w) : AtQ (thn (Meet G S E I) Q) .normal s H := ⟨y, hI, hs, hH⟩
theorem e_scf {R : Value → List Ent → Prop} {rs : List ResultVar} {vs : List Value} {e : Exit} (H' : List Ent) (he : e = .normal ∨ e = .ret) (hr : res? s rs = some vs) (hH : ∀ w, Holds G H w → Holds G H' w) (h : R (resV vs) H') : AtQ (fpost G P rs R) e s H := at_fpost e he (res?_of hr) hH h
end
end Go.Sx
