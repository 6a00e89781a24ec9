/- What the types of a program are, by instances; and the rules that ask for it. -/
import Derived.Test.YtgcnfcgnkfkpeaaSx3
namespace Go.Sx
open Go Go.RowKit Go.Fw

/-- A type of one cell. -/
class Sc (P : Program) (t : TypeId) : Prop where
  here : ∃ d, P.underlying t = some d ∧ rowB d = false ∧ (P.info? t).map (·.size) = some 1
/-- A struct or an array of so many cells. -/
class Ag (P : Program) (t : TypeId) (sz : outParam Nat) : Prop where
  here : ∃ d, P.underlying t = some d ∧ rowB d = true ∧ (P.info? t).map (·.size) = some sz
/-- A field's place. -/
class FieldAt (P : Program) (t i : Nat) (off : outParam Nat) : Prop where
  here : ∃ fs f sz, P.underlying t = some (.struct fs) ∧ fs[i]? = some f ∧ f.offset = off ∧ (P.info? f.type).map (·.size) = some (sz + 1)
/-- A slice's elements. -/
class SliceT (P : Program) (t : TypeId) (e sz bytes : outParam Nat) : Prop where
  here : P.underlying t = some (.slice e) ∧ 0 < sz ∧ 0 < bytes ∧ ∃ z, (P.info? e).map (fun i => (i.zero, i.size, i.bytes)) = some (some z, sz, bytes) ∧ z.cells.size = sz
/-- An array's elements. -/
class ArrT (P : Program) (t : TypeId) (len e sz : outParam Nat) : Prop where
  here : P.underlying t = some (.array len e) ∧ (P.info? e).map (·.size) = some sz
/-- A type's zero. -/
class ZeroT (P : Program) (t : TypeId) (cs : outParam (List Value)) : Prop where
  here : ∃ z, still P (zeroValue t) = some z ∧ Cs z cs
class IntT (P : Program) (t : TypeId) (k : outParam IntKind) : Prop where
  here : P.underlying t = some (.int k)
class StrT (P : Program) (t : TypeId) : Prop where
  here : P.underlying t = some .string
class Wide (P : Program) : Prop where
  here : P.follows .mixedOrders = true

/-- What is held of a block; of a row; and what is left when it is taken out. -/
class HasBlk (H : List Ent) (b : Nat) (t : outParam TypeId) (cs : outParam (List Value)) : Prop where
  here : Ent.blk b t cs ∈ H
instance (priority := low) hasBlkTail {H : List Ent} {b : Nat} {t : TypeId} {cs : List Value} {e : Ent} [h : HasBlk H b t cs] : HasBlk (e :: H) b t cs := ⟨List.mem_cons_of_mem _ h.here⟩
instance hasBlkHead {H : List Ent} {b : Nat} {t : TypeId} {cs : List Value} : HasBlk (.blk b t cs :: H) b t cs := ⟨List.mem_cons_self⟩
class PickBlk (H : List Ent) (b : Nat) (t : outParam TypeId) (cs : outParam (List Value)) (H' : outParam (List Ent)) : Prop where
  here : Pick (.blk b t cs) H H'
instance (priority := low) pickBlkTail {H H' : List Ent} {b : Nat} {t : TypeId} {cs : List Value} {e : Ent} [h : PickBlk H b t cs H'] : PickBlk (e :: H) b t cs (e :: H') := ⟨.there h.here⟩
instance pickBlkHead {H : List Ent} {b : Nat} {t : TypeId} {cs : List Value} : PickBlk (.blk b t cs :: H) b t cs H := ⟨.here _⟩
class PickOwn (H : List Ent) (a : Option Addr) (e : outParam TypeId) (sz n c : outParam Nat) (xs : outParam (List Value)) (H' : outParam (List Ent)) : Prop where
  here : Pick (.own e sz a n c xs) H H'
instance (priority := low) pickOwnTail {H H' : List Ent} {a : Option Addr} {e : TypeId} {sz n c : Nat} {xs : List Value} {x : Ent} [h : PickOwn H a e sz n c xs H'] : PickOwn (x :: H) a e sz n c xs (x :: H') := ⟨.there h.here⟩
instance pickOwnHead {H : List Ent} {a : Option Addr} {e : TypeId} {sz n c : Nat} {xs : List Value} : PickOwn (.own e sz a n c xs :: H) a e sz n c xs H := ⟨.here _⟩
/-- What can be read at an address. -/
class RdC (G : Ctx) (H : List Ent) (a : Option Addr) (xs : outParam (List Value)) : Prop where
  here : Rd G H a xs
instance (priority := low) rdTail {G : Ctx} {H : List Ent} {a : Option Addr} {xs : List Value} {e : Ent} [h : RdC G H a xs] : RdC G (e :: H) a xs := ⟨h.here.cons⟩
instance rdOwn {G : Ctx} {H : List Ent} {a : Option Addr} {e : TypeId} {sz n c : Nat} {xs : List Value} : RdC G (.own e sz a n c xs :: H) a xs := ⟨Rd.mem List.mem_cons_self⟩
instance rdBlk {G : Ctx} {H : List Ent} {b : Nat} {t : TypeId} {cs : List Value} : RdC G (.blk b t cs :: H) (some ⟨b, 0, none⟩) cs := ⟨Rd.blk List.mem_cons_self⟩

/-- The same, told by functions that spell their answers out. -/
def evs (s : Fm) : List Operand → Option (List Value)
  | [] => some []
  | x :: l => match ev s x with
    | none => none
    | some v => match evs s l with
      | none => none
      | some vs => some (v :: vs)
theorem evs_of {s : Fm} : ∀ {l : List Operand} {vs : List Value}, evs s l = some vs → Evs s l vs
  | [], vs, h => by simp only [evs, Option.some.injEq] at h; subst h; exact .nil
  | x :: l, vs, h => by
    unfold evs at h
    split at h
    · cases h
    · rename_i v hv
      split at h
      · cases h
      · rename_i vs' hvs
        simp only [Option.some.injEq] at h
        subst h
        exact .cons hv (evs_of hvs)
def set? : List Value → Nat → Value → Option (List Value)
  | [], _, _ => none
  | _ :: l, 0, v => some (v :: l)
  | x :: l, k + 1, v => match set? l k v with
    | none => none
    | some l' => some (x :: l')
theorem set?_eq : ∀ {l : List Value} {k : Nat} {v : Value} {l' : List Value}, set? l k v = some l' → l.set k v = l' ∧ k < l.length
  | [], _, _, _, h => by cases h
  | x :: l, 0, v, l', h => by simp only [set?, Option.some.injEq] at h; subst h; simp
  | x :: l, k + 1, v, l', h => by
    unfold set? at h
    split at h
    · cases h
    · rename_i r hr
      obtain ⟨h1, h2⟩ := set?_eq hr
      simp only [Option.some.injEq] at h
      subst h
      simp [h1, h2]
def take? : List Value → Nat → Option (List Value)
  | _, 0 => some []
  | [], _ + 1 => none
  | x :: l, k + 1 => match take? l k with
    | none => none
    | some l' => some (x :: l')
theorem take?_eq : ∀ {l : List Value} {k : Nat} {l' : List Value}, take? l k = some l' → l.take k = l' ∧ k ≤ l.length
  | l, 0, l', h => by
    simp only [take?, Option.some.injEq] at h
    subst h
    exact ⟨List.take_zero, Nat.zero_le _⟩
  | [], k + 1, l', h => by cases h
  | x :: l, k + 1, l', h => by
    unfold take? at h
    split at h
    · cases h
    · rename_i r hr
      obtain ⟨h1, h2⟩ := take?_eq hr
      simp only [Option.some.injEq] at h
      subst h
      simp [h1, h2]
def cells? : Value → Option (List Value)
  | .agg ⟨l⟩ => some l
  | .tuple _ => none
  | v => some [v]
theorem cells?_eq {v : Value} {l : List Value} (h : cells? v = some l) : Cs v l := by
  unfold cells? at h
  split at h
  · simp only [Option.some.injEq] at h; subst h; exact .agg _
  · cases h
  · rename_i h1 h2
    simp only [Option.some.injEq] at h
    subst h
    exact .one (by cases v <;> first | rfl | exact absurd rfl (h1 _) | exact absurd rfl (h2 _))
def res? (s : Fm) : List ResultVar → Option (List Value)
  | [] => some []
  | .tmp t :: l => match look s t with
    | none => none
    | some v => match res? s l with
      | none => none
      | some vs => some (v :: vs)
  | .cell _ _ :: _ => none
theorem res?_of {s : Fm} {H : List Ent} {P : Program} : ∀ {l : List ResultVar} {vs : List Value}, res? s l = some vs → Res s H P l vs
  | [], vs, h => by simp only [res?, Option.some.injEq] at h; subst h; exact .nil
  | .cell _ _ :: l, vs, h => by cases h
  | .tmp t :: l, vs, h => by
    unfold res? at h
    split at h
    · cases h
    · rename_i v hv
      split at h
      · cases h
      · rename_i vs' hvs
        simp only [Option.some.injEq] at h
        subst h
        exact .tmp hv (res?_of hvs)

section
variable {P : Program} {G : Ctx} {n : Nat} {ops : Array Oper} {Q : Post} {s : Fm} {H : List Ent} {o : Oper} {rest : List Oper}

theorem SliceT.size {t e sz bytes : Nat} (h : SliceT P t e sz bytes) : (P.info? e).map (·.size) = some sz := by
  obtain ⟨-, -, -, z, hz, -⟩ := h.here
  cases hq : P.info? e with
  | none => rw [hq] at hz; cases hz
  | some i => rw [hq] at hz; simp only [Option.map_some, Option.some.injEq, Prod.mk.injEq] at hz ⊢; exact hz.2.1

theorem c_load {t t' : TypeId} {x : Operand} {b off : Nat} {cs : List Value} {v : Value} (ho : o.op = .load t x) [h : Sc P t] (hx : ev s x = some (.pointer (some ⟨b, off, none⟩))) [hm : HasBlk H b t' cs] (hv : cs[off]? = some v) : Yields P G n s H o v := by
  obtain ⟨d, h1, h2, -⟩ := h.here
  exact y_load ho hx hm.here h1 h2 hv
theorem c_loadw {t t' sz : Nat} {x : Operand} {b : Nat} {cs : List Value} (ho : o.op = .load t x) [h : Ag P t sz] (hx : ev s x = some (.pointer (some ⟨b, 0, none⟩))) [hm : HasBlk H b t' cs] (hl' : Nat.beq cs.length sz = true) : Yields P G n s H o (.agg cs.toArray) := by
  obtain ⟨d, h1, h2, h3⟩ := h.here
  have hl := Nat.eq_of_beq_eq_true hl'
  exact y_load_whole ho hx hm.here h1 h2 (by rw [h3, hl])
theorem c_loadp {t t' sz : Nat} {x : Operand} {b off : Nat} {cs cs' : List Value} (ho : o.op = .load t x) [h : Ag P t sz] (hx : ev s x = some (.pointer (some ⟨b, off, none⟩))) [hm : HasBlk H b t' cs] (hn : take? (cs.drop off) sz = some cs') (hz : Nat.blt 0 sz = true) : Yields P G n s H o (.agg cs'.toArray) := by
  obtain ⟨d, h1, h2, h3⟩ := h.here
  obtain ⟨e1, e2⟩ := take?_eq hn
  rw [List.length_drop] at e2
  have h0 : 0 < sz := by simpa [Nat.blt_eq] using hz
  exact y_load_part ho hx hm.here h1 h2 h3 (by rw [e1]; exact .keep _) (by omega)
theorem c_indexAddr {t e sz bytes : Nat} {x y : Operand} {a : Option Addr} {len c : Nat} {k : IntKind} {i : Int} {xs : List Value} (ho : o.op = .indexAddr t x y) [h : SliceT P t e sz bytes] (hx : ev s x = some (.slice a len c)) (hy : ev s y = some (.int k i)) [hr : RdC G H a xs] (hl : xs.length = len * sz) (h0 : 0 ≤ i) (h1 : i < len) :
    Yields P G n s H o (elemPtr a (i.toNat * sz)) := by
  obtain ⟨hu, hsz, -, -⟩ := h.here
  exact y_indexAddr ho hx hy hu h.size hr.here (by rw [hl]; exact Nat.le_mul_of_pos_right _ hsz) h0 h1
theorem c_loade {t : Nat} {x : Operand} {a : Option Addr} {k : Nat} {xs : List Value} {v : Value} (ho : o.op = .load t x) [h : Sc P t] (hx : ev s x = some (elemPtr a k)) [hr : RdC G H a xs] (hv : xs[k]? = some v) : Yields P G n s H o v := by
  obtain ⟨d, h1, h2, -⟩ := h.here
  exact y_load_elem ho hx hr.here h1 h2 hv
theorem c_loades {t sz : Nat} {x : Operand} {a : Option Addr} {k : Nat} {xs cs : List Value} (ho : o.op = .load t x) [h : Ag P t sz] (hx : ev s x = some (elemPtr a k)) [hr : RdC G H a xs] (hl : cs.length = sz) (h0 : 0 < cs.length) (hv : ∀ j v, cs[j]? = some v → xs[k + j]? = some v) : Yields P G n s H o (.agg cs.toArray) := by
  obtain ⟨d, h1, h2, h3⟩ := h.here
  exact y_load_elems ho hx hr.here h1 h2 (by rw [h3, hl]) h0 hv
theorem c_field0 {t i fo : Nat} {x : Operand} {b : Nat} (ho : o.op = .fieldAddr t x i) [h : FieldAt P t i fo] (hx : ev s x = some (.pointer (some ⟨b, 0, none⟩))) : Yields P G n s H o (.pointer (some ⟨b, fo, none⟩)) := by
  obtain ⟨fs, f, sz, h1, h2, h3, h4⟩ := h.here
  exact y_fieldAddr ho hx h1 h2 rfl h4 (by rw [h3, Nat.zero_add])
theorem c_field {t i fo : Nat} {x : Operand} {b off : Nat} (ho : o.op = .fieldAddr t x i) [h : FieldAt P t i fo] (hx : ev s x = some (.pointer (some ⟨b, off, none⟩))) : Yields P G n s H o (.pointer (some ⟨b, off + fo, none⟩)) := by
  obtain ⟨fs, f, sz, h1, h2, h3, h4⟩ := h.here
  exact y_fieldAddr ho hx h1 h2 rfl h4 (by rw [h3])
theorem c_store {t t' : TypeId} {x y : Operand} {b off : Nat} {cs cs' : List Value} {v : Value} {H' : List Ent} (hg : o.guard = none) (ho : o.op = .store t x y) [h : Sc P t] (hx : ev s x = some (.pointer (some ⟨b, off, none⟩))) (hy : ev s y = some v) [hp : PickBlk H b t' cs H'] (h1 : v.oneCell' = true)
    (hn : set? cs off v = some cs') (hd : o.dst = none) (hk : SL P G n ops Q rest s (.blk b t' cs' :: H')) : SL P G n ops Q (o :: rest) s H := by
  obtain ⟨d, -, -, h3⟩ := h.here
  obtain ⟨e1, e2⟩ := set?_eq hn
  exact sl_store hg ho hx hy hp.here h1 h3 e2 (by rw [e1]; exact .keep _) hd hk
theorem c_storek {t t' : TypeId} {x y : Operand} {b off : Nat} {cs : List Value} {v : Value} {H' : List Ent} (hg : o.guard = none) (ho : o.op = .store t x y) [h : Sc P t] (hx : ev s x = some (.pointer (some ⟨b, off, none⟩))) (hy : ev s y = some v) [hp : PickBlk H b t' cs H'] (h1 : v.oneCell' = true)
    (hl : off < cs.length) (hd : o.dst = none) (hk : SL P G n ops Q rest s (.blk b t' (cs.set off v) :: H')) : SL P G n ops Q (o :: rest) s H := by
  obtain ⟨d, -, -, h3⟩ := h.here
  exact sl_store hg ho hx hy hp.here h1 h3 hl (.keep _) hd hk
theorem c_storew {t t' sz : Nat} {x y : Operand} {b : Nat} {cs cs' : List Value} {H' : List Ent} (hg : o.guard = none) (ho : o.op = .store t x y) [h : Ag P t sz] (hx : ev s x = some (.pointer (some ⟨b, 0, none⟩))) (hy : ev s y = some (.agg cs'.toArray)) [hp : PickBlk H b t' cs H'] (h1 : cs'.all (·.oneCell') = true)
    (hl' : Nat.beq cs'.length sz = true) (hl2' : Nat.beq cs.length sz = true) (hd : o.dst = none) (hk : SL P G n ops Q rest s (.blk b t' cs' :: H')) : SL P G n ops Q (o :: rest) s H := by
  obtain ⟨d, -, -, h3⟩ := h.here
  have hl := Nat.eq_of_beq_eq_true hl'
  have hl2 := Nat.eq_of_beq_eq_true hl2'
  exact sl_store_whole hg ho hx hy hp.here h1 (by rw [h3, hl]) (by rw [hl, hl2]) hd hk
theorem c_box {elem : TypeId} {x : Operand} {v : Value} {cs : List Value} {d : Nat} (hg : o.guard = none) (ho : o.op = .box elem x) (hx : ev s x = some v) (hc : cells? v = some cs) (h1 : o.dst = some d) (h2 : Nat.blt d n = true)
    (h : ∀ b, SL P G n ops Q rest ((d, .pointer (some ⟨b, 0, none⟩)) :: s) (.blk b elem cs :: H)) : SL P G n ops Q (o :: rest) s H := sl_box hg ho hx (cells?_eq hc) h1 h2 h
theorem c_alloc {t : TypeId} {cs : List Value} {d : Nat} (hg : o.guard = none) (ho : o.op = .alloc t) [hz : ZeroT P t cs] (h1 : o.dst = some d) (h2 : Nat.blt d n = true)
    (h : ∀ b, SL P G n ops Q rest ((d, .pointer (some ⟨b, 0, none⟩)) :: s) (.blk b t cs :: H)) : SL P G n ops Q (o :: rest) s H := by
  obtain ⟨z, e1, e2⟩ := hz.here
  exact sl_alloc hg ho e1 e2 h1 h2 h
theorem c_call {f d : Nat} {xs : Array Operand} {ats : Array TypeId} {vs : List Value} {R : Value → List Ent → Prop} (hg : o.guard = none) (ho : o.op = .call { callee := .value (.func f), args := xs, argTypes := ats }) (he : evs s xs.toList = some vs) (hc : SC P G f vs H R) (h1 : o.dst = some d) (h2 : Nat.blt d n = true)
    (h : ∀ v H', R v H' → SL P G n ops Q rest ((d, v) :: s) H') : SL P G n ops Q (o :: rest) s H := sl_call hg ho (evs_of he) hc h1 h2 h
theorem c_callv {f d : Nat} {xs : Array Operand} {ats : Array TypeId} {vs : List Value} {v : Value} (hg : o.guard = none) (ho : o.op = .call { callee := .value (.func f), args := xs, argTypes := ats }) (he : evs s xs.toList = some vs) (hc : SV P G f vs H v) (h1 : o.dst = some d) (h2 : Nat.blt d n = true)
    (h : SL P G n ops Q rest ((d, v) :: s) H) : SL P G n ops Q (o :: rest) s H := sl_callv hg ho (evs_of he) hc h1 h2 h
theorem c_callq {Q : Fm → Prop} {f d : Nat} {xs : Array Operand} {ats : Array TypeId} {vs : List Value} {v : Value} (hg : o.guard = none) (ho : o.op = .call { callee := .value (.func f), args := xs, argTypes := ats }) (he : evs s xs.toList = some vs) (hc : SV P G f vs H v) (h1 : o.dst = some d) (h2 : Nat.blt d n = true)
    (h : SQ P G n ops Q H rest ((d, v) :: s)) : SQ P G n ops Q H (o :: rest) s := sq_call hg ho (evs_of he) hc h1 h2 h
theorem e_sv {H0 : List Ent} {rs : List ResultVar} {vs : List Value} {v : Value} {e : Exit} (he : e = .normal ∨ e = .ret) (hr : res? s rs = some vs) (hH : H0.Sublist H) (h : resV vs = v) : AtQ (fpost G P rs fun u H' => u = v ∧ H' = H0) e s H := at_sv e he (res?_of hr) hH h
theorem e_sc {R : Value → List Ent → Prop} {rs : List ResultVar} {vs : List Value} {e : Exit} (H' : List Ent) (he : e = .normal ∨ e = .ret) (hr : res? s rs = some vs) (hH : H'.Sublist H) (h : R (resV vs) H') : AtQ (fpost G P rs R) e s H := at_sc e he (res?_of hr) hH h

/-- A slice literal all of whose elements are told, in their order, each of one cell. -/
def countUp : List Nat → Nat → Bool
  | [], _ => true
  | i :: r, k => Nat.beq i k && countUp r (k + 1)
theorem fill_one (z : Value) : ∀ (vs pre : List Value) (k : Nat), pre.length = k → (∀ v ∈ vs, v.oneCell' = true) →
    Instr.fill (fun i => some (i * 1, 1)) (pre ++ List.replicate vs.length z).toArray ((List.range' k vs.length).zip vs) = some (pre ++ vs).toArray := by
  intro vs
  induction vs with
  | nil => intro pre k _ _; simp [Instr.fill]
  | cons v vs ih =>
    intro pre k hk h1
    have hv := h1 v List.mem_cons_self
    have hc : v.cells = #[v] := by cases v <;> first | rfl | cases hv
    simp only [List.length_cons, List.range'_succ, List.zip_cons_cons, Instr.fill, hc]
    have e : (pre ++ List.replicate (vs.length + 1) z).toArray.setIfInBounds k v = ((pre ++ [v]) ++ List.replicate vs.length z).toArray := by
      rw [List.setIfInBounds_toArray, List.set_append_right _ _ (by omega), show k - pre.length = 0 from by omega, List.replicate_succ, List.set_cons_zero]
      simp
    have h2 := ih (pre ++ [v]) (k + 1) (by simp [hk]) fun u hu => h1 u (List.mem_cons_of_mem _ hu)
    rw [if_neg (by simp; omega)]
    have e3 : (Array.zipIdx #[v]).foldl (fun cs x => cs.setIfInBounds (k * 1 + x.2) x.1) (pre ++ List.replicate (vs.length + 1) z).toArray = ((pre ++ [v]) ++ List.replicate vs.length z).toArray := by
      rw [← e]; simp
    rw [e3, h2]
    simp
theorem countUp_range : ∀ (l : List Nat) (k : Nat), countUp l k = true → l = List.range' k l.length := by
  intro l
  induction l with
  | nil => intro k _; rfl
  | cons i l ih =>
    intro k h
    simp only [countUp, Bool.and_eq_true] at h
    rw [List.length_cons, List.range'_succ, ← ih (k + 1) h.2, Nat.eq_of_beq_eq_true h.1]
theorem Evs.length {l : List Operand} {vs : List Value} (h : Evs s l vs) : vs.length = l.length := by
  induction h with
  | nil => rfl
  | cons _ _ ih => simp [ih]
theorem c_buildSlice {t e bytes len d : Nat} {parts : Array (Nat × Operand)} {vs : List Value} (hg : o.guard = none) (ho : o.op = .buildSlice t len parts) [h : SliceT P t e 1 bytes] (he' : evs s (parts.toList.map (·.2)) = some vs) (hc : countUp (parts.toList.map (·.1)) 0 = true) (hl : parts.toList.length = len) (h0 : Nat.blt 0 len = true) (hm : Nat.ble len 1000 = true) (h1 : vs.all (·.oneCell') = true)
    (h1d : o.dst = some d) (h2d : Nat.blt d n = true) (hk : ∀ b, SL P G n ops Q rest ((d, .slice (some ⟨b, 0, none⟩) len len) :: s) (.own e 1 (some ⟨b, 0, none⟩) len len vs :: H)) : SL P G n ops Q (o :: rest) s H := by
  have he := evs_of he'
  obtain ⟨hu, -, -, z, hz, hzs⟩ := h.here
  have hlen : vs.length = len := by rw [he.length, List.length_map, hl]
  have hpos : 0 < len := by simpa [Nat.blt_eq] using h0
  have hle := Nat.le_of_ble_eq_true hm
  refine sl_buildSlice hg ho he hu h.size ?_ (by omega) hle h1d h2d hk
  cases hq : P.info? e with
  | none => rw [hq] at hz; cases hz
  | some i =>
    rw [hq] at hz
    simp only [Option.map_some, Option.some.injEq, Prod.mk.injEq] at hz
    obtain ⟨hz0, hz1, hz2⟩ := hz
    unfold builtSlice
    simp only [hq, hz0, hz1]
    rw [if_neg (by omega)]
    have hidx := countUp_range _ _ hc
    rw [List.length_map, hl] at hidx
    rw [hidx]
    have hz' : ∃ u, z.cells = #[u] := by
      have := Array.size_eq_one_iff.1 hzs
      exact this
    obtain ⟨u, hu'⟩ := hz'
    have := fill_one u vs [] 0 rfl (by simpa using h1)
    rw [hlen] at this
    rw [hu']
    have e4 : (Array.range (len * 1)).map (fun x => #[u][x % #[u].size]!) = ([] ++ List.replicate len u).toArray := by
      apply Array.ext'
      simp only [Array.toList_map, Nat.mul_one, List.nil_append]
      apply List.ext_getElem
      · simp
      · intro j h1 h2
        simp [Nat.mod_one]
    rw [e4, this]
    simp
theorem c_append {x y : Operand} {t e sz bytes d : Nat} {a a2 : Option Addr} {len c m c2 : Nat} {xs news : List Value} {H' : List Ent} (hg : o.guard = none) (ho : o.op = .call { callee := .builtin .append, args := #[x, y], argTypes := #[t, t] })
    [hT : SliceT P t e sz bytes] (hx : ev s x = some (.slice a len c)) [hp : PickOwn H a e sz len c xs H'] (hy : ev s y = some (.slice a2 m c2)) [hr : RdC G H a2 news] (hl : news.length = m * sz) (h1 : news.all (·.oneCell') = true) (hb : (len + m) * bytes ≤ 140737488355328) (h1d : o.dst = some d) (h2d : Nat.blt d n = true)
    (h : ∀ a' c', SL P G n ops Q rest ((d, .slice a' (len + m) c') :: s) (.own e sz a' (len + m) c' (xs ++ news) :: H')) : SL P G n ops Q (o :: rest) s H := by
  obtain ⟨hu, hsz, hby, z, hz, hzs⟩ := hT.here
  exact sl_append hg ho hx hp.here hy hr.here hu hz hzs hsz hby hl (by simpa using h1) hb h1d h2d h
theorem sl_heap {H' : List Ent} {l : List Oper} (hH : ∀ w, Holds G H w → Holds G H' w) (h : SL P G n ops Q l s H') : SL P G n ops Q l s H := fun a w ha hw => h a w ha (hH w hw)
theorem c_append_nil {x y : Operand} {t e sz bytes d : Nat} {a2 : Option Addr} {m c2 : Nat} {news : List Value} (hg : o.guard = none) (ho : o.op = .call { callee := .builtin .append, args := #[x, y], argTypes := #[t, t] })
    [hT : SliceT P t e sz bytes] (hx : ev s x = some (.slice none 0 0)) (hy : ev s y = some (.slice a2 m c2)) [hr : RdC G H a2 news] (hl : news.length = m * sz) (h1 : news.all (·.oneCell') = true) (hb : m * bytes ≤ 140737488355328) (h1d : o.dst = some d) (h2d : Nat.blt d n = true)
    (h : ∀ a' c', SL P G n ops Q rest ((d, .slice a' m c') :: s) (.own e sz a' m c' news :: H)) : SL P G n ops Q (o :: rest) s H := by
  refine sl_heap (fun w hw => hw.nilrow e sz) (c_append (hp := ⟨.here _⟩) hg ho hx hy (hr := ⟨hr.here.cons⟩) hl h1 (by rwa [Nat.zero_add]) h1d h2d fun a' c' => ?_)
  rw [Nat.zero_add, List.nil_append]
  exact h a' c'
/-- The length of a slice, of a string. -/
theorem y_len {t e : TypeId} {x : Operand} {a : Option Addr} {len c : Nat} (ho : o.op = .call { callee := .builtin .len, args := #[x], argTypes := #[t] }) (hu : P.underlying t = some (.slice e)) (hx : ev s x = some (.slice a len c)) : Yields P G n s H o (.int .i64 len) := fun act w ha _ => by
  unfold execOp; rw [ho]
  simp only [resolve, invoke, builtin, Sem.run_bind, Sem.run_pure, Result.andThen_ok, List.map_toArray, List.map_cons, List.map_nil, ha.ev hx]
  simp [Builtin.len_, run_underlying hu, goInt]
theorem y_len_str {t : TypeId} {x : Operand} {b : ByteArray} (ho : o.op = .call { callee := .builtin .len, args := #[x], argTypes := #[t] }) (hu : P.underlying t = some .string) (hx : ev s x = some (.string b)) : Yields P G n s H o (.int .i64 b.size) := fun act w ha _ => by
  unfold execOp; rw [ho]
  simp only [resolve, invoke, builtin, Sem.run_bind, Sem.run_pure, Result.andThen_ok, List.map_toArray, List.map_cons, List.map_nil, ha.ev hx]
  simp [Builtin.len_, run_underlying hu, goInt]
theorem c_len {t e sz bytes : Nat} {x : Operand} {a : Option Addr} {len c : Nat} (ho : o.op = .call { callee := .builtin .len, args := #[x], argTypes := #[t] }) [h : SliceT P t e sz bytes] (hx : ev s x = some (.slice a len c)) : Yields P G n s H o (.int .i64 len) := y_len ho h.here.1 hx
theorem c_len_str {t : TypeId} {x : Operand} {b : ByteArray} (ho : o.op = .call { callee := .builtin .len, args := #[x], argTypes := #[t] }) [h : StrT P t] (hx : ev s x = some (.string b)) : Yields P G n s H o (.int .i64 b.size) := y_len_str ho h.here hx
/-- Whole numbers from one kind to another. -/
theorem c_conv {src dst : TypeId} {k k' : IntKind} {x : Operand} {m : Int} (ho : o.op = .convert src dst x) [h1 : IntT P src k'] [h2 : IntT P dst k] (hx : ev s x = some (.int k' m)) (hf : Fits k m) : Yields P G n s H o (.int k m) := fun a w ha _ => by
  unfold execOp; rw [ho]; simp only [ha.ev hx]
  refine run_value ?_
  simp only [convert, Sem.run_bind, run_underlying h1.here, run_underlying h2.here, Result.andThen_ok, Conv.intToInt, Sem.run_pure, hf.wrap]
theorem c_convw {src dst : TypeId} {k k' : IntKind} {x : Operand} {m : Int} (ho : o.op = .convert src dst x) [h1 : IntT P src k'] [h2 : IntT P dst k] (hx : ev s x = some (.int k' m)) : Yields P G n s H o (.int k (k.wrap m)) := fun a w ha _ => by
  unfold execOp; rw [ho]; simp only [ha.ev hx]
  refine run_value ?_
  simp only [convert, Sem.run_bind, run_underlying h1.here, run_underlying h2.here, Result.andThen_ok, Conv.intToInt, Sem.run_pure]
theorem c_drawn {id : Nat} {l : List Oper} [h : Wide P] (hB : Region.lexB .any l.toArray = true) (hk : SQ P G n l.toArray (fun s' => AtQ Q .normal s' H) H l s) : SW P G n (.region id l.toArray true) Q s H := sw_drawn h.here hB hk
end
theorem ints_one (xs : List Int) : (ints xs).all (·.oneCell') = true := by simp [ints, Value.oneCell']
theorem octs_one (xs : List Int) : (octs xs).all (·.oneCell') = true := by simp [octs, Value.oneCell']
theorem strs_one (xs : List ByteArray) : (strs xs).all (·.oneCell') = true := by simp [strs, Value.oneCell']

/-! Gates: what stands at the head. -/
section
variable {P : Program} {G : Ctx} {n : Nat} {ops : Array Oper} {Q : Post} {s : Fm} {H : List Ent} {rest : List Oper} {d : Option Tmp} {ty : TypeId} {pos : String} {af : Array Edge}
theorem g_sl {l : List Oper} (h : SL P G n ops Q l s H) : SL P G n ops Q l s H := h
theorem g_none {op : Op} (h : SL P G n ops Q (⟨d, op, ty, pos, af, none⟩ :: rest) s H) : SL P G n ops Q (⟨d, op, ty, pos, af, none⟩ :: rest) s H := h
theorem g_sq {Q : Fm → Prop} {l : List Oper} (h : SQ P G n ops Q H l s) : SQ P G n ops Q H l s := h
theorem g_move {x : Operand} (h : SL P G n ops Q (⟨d, .move x, ty, pos, af, none⟩ :: rest) s H) : SL P G n ops Q (⟨d, .move x, ty, pos, af, none⟩ :: rest) s H := h
theorem g_bin {op : BinOp} {t t' : TypeId} {x y : Operand} (h : SL P G n ops Q (⟨d, .binOp op t x y t', ty, pos, af, none⟩ :: rest) s H) : SL P G n ops Q (⟨d, .binOp op t x y t', ty, pos, af, none⟩ :: rest) s H := h
theorem g_load {t : TypeId} {x : Operand} (h : SL P G n ops Q (⟨d, .load t x, ty, pos, af, none⟩ :: rest) s H) : SL P G n ops Q (⟨d, .load t x, ty, pos, af, none⟩ :: rest) s H := h
theorem g_store {t : TypeId} {x y : Operand} (h : SL P G n ops Q (⟨d, .store t x y, ty, pos, af, none⟩ :: rest) s H) : SL P G n ops Q (⟨d, .store t x y, ty, pos, af, none⟩ :: rest) s H := h
theorem g_call {c : Call} (h : SL P G n ops Q (⟨d, .call c, ty, pos, af, none⟩ :: rest) s H) : SL P G n ops Q (⟨d, .call c, ty, pos, af, none⟩ :: rest) s H := h
theorem g_guard {op : Op} {g : Nat × Bool} (h : SL P G n ops Q (⟨d, op, ty, pos, af, some g⟩ :: rest) s H) : SL P G n ops Q (⟨d, op, ty, pos, af, some g⟩ :: rest) s H := h
theorem q_none {Q : Fm → Prop} {op : Op} (h : SQ P G n ops Q H (⟨d, op, ty, pos, af, none⟩ :: rest) s) : SQ P G n ops Q H (⟨d, op, ty, pos, af, none⟩ :: rest) s := h
theorem q_guard {Q : Fm → Prop} {op : Op} {g : Nat × Bool} (h : SQ P G n ops Q H (⟨d, op, ty, pos, af, some g⟩ :: rest) s) : SQ P G n ops Q H (⟨d, op, ty, pos, af, some g⟩ :: rest) s := h
theorem sl_ung {op : Op} {i j : Nat} {b : Bool} {o' : Oper} (ho : ops[i]? = some o') (hd : o'.dst = some j) (hl : look s j = some (.bool b)) (h : SL P G n ops Q (⟨d, op, ty, pos, af, none⟩ :: rest) s H) : SL P G n ops Q (⟨d, op, ty, pos, af, some (i, b)⟩ :: rest) s H := sl_unguard rfl ho hd hl h
theorem sq_ung {Q : Fm → Prop} {op : Op} {i j : Nat} {b : Bool} {o' : Oper} (ho : ops[i]? = some o') (hd : o'.dst = some j) (hl : look s j = some (.bool b)) (h : SQ P G n ops Q H (⟨d, op, ty, pos, af, none⟩ :: rest) s) : SQ P G n ops Q H (⟨d, op, ty, pos, af, some (i, b)⟩ :: rest) s := sq_unguard rfl ho hd hl h
end
section
variable {P : Program} {G : Ctx} {n : Nat} {ops : Array Oper} {Q : Post} {s : Fm} {H : List Ent} {o : Oper} {rest : List Oper}
theorem sl_skip_t {i j d : Nat} {o' : Oper} (hg : o.guard = some (i, true)) (ho : ops[i]? = some o') (hd : o'.dst = some j) (hl : look s j = some (.bool false)) (h1 : o.dst = some d) (h2 : Nat.blt d n = true) (h : SL P G n ops Q rest ((d, undef) :: s) H) : SL P G n ops Q (o :: rest) s H := sl_skip (fun _ ha => Skips.wanted ⟨i, false, o', j, hg, ho, hd, hl⟩ ha) h1 h2 h
theorem sl_skip_f {i j d : Nat} {o' : Oper} (hg : o.guard = some (i, false)) (ho : ops[i]? = some o') (hd : o'.dst = some j) (hl : look s j = some (.bool true)) (h1 : o.dst = some d) (h2 : Nat.blt d n = true) (h : SL P G n ops Q rest ((d, undef) :: s) H) : SL P G n ops Q (o :: rest) s H := sl_skip (fun _ ha => Skips.wanted ⟨i, true, o', j, hg, ho, hd, hl⟩ ha) h1 h2 h
theorem sl_skip_u {i j d : Nat} {b : Bool} {o' : Oper} (hg : o.guard = some (i, b)) (ho : ops[i]? = some o') (hd : o'.dst = some j) (hl : look s j = some undef) (h1 : o.dst = some d) (h2 : Nat.blt d n = true) (h : SL P G n ops Q rest ((d, undef) :: s) H) : SL P G n ops Q (o :: rest) s H := sl_skip (fun _ ha => Skips.undef hg ho hd hl ha) h1 h2 h
theorem sq_skip_t {Q : Fm → Prop} {i j d : Nat} {o' : Oper} (hg : o.guard = some (i, true)) (ho : ops[i]? = some o') (hd : o'.dst = some j) (hl : look s j = some (.bool false)) (h1 : o.dst = some d) (h2 : Nat.blt d n = true) (h : SQ P G n ops Q H rest ((d, undef) :: s)) : SQ P G n ops Q H (o :: rest) s := sq_skip (fun _ ha => Skips.wanted ⟨i, false, o', j, hg, ho, hd, hl⟩ ha) h1 h2 h
theorem sq_skip_f {Q : Fm → Prop} {i j d : Nat} {o' : Oper} (hg : o.guard = some (i, false)) (ho : ops[i]? = some o') (hd : o'.dst = some j) (hl : look s j = some (.bool true)) (h1 : o.dst = some d) (h2 : Nat.blt d n = true) (h : SQ P G n ops Q H rest ((d, undef) :: s)) : SQ P G n ops Q H (o :: rest) s := sq_skip (fun _ ha => Skips.wanted ⟨i, true, o', j, hg, ho, hd, hl⟩ ha) h1 h2 h
theorem sq_skip_u {Q : Fm → Prop} {i j d : Nat} {b : Bool} {o' : Oper} (hg : o.guard = some (i, b)) (ho : ops[i]? = some o') (hd : o'.dst = some j) (hl : look s j = some undef) (h1 : o.dst = some d) (h2 : Nat.blt d n = true) (h : SQ P G n ops Q H rest ((d, undef) :: s)) : SQ P G n ops Q H (o :: rest) s := sq_skip (fun _ ha => Skips.undef hg ho hd hl ha) h1 h2 h
/-- A guard that is not known, by what it says. -/
theorem sl_split_dec {i d : Nat} {b : Bool} {p : Prop} [Decidable p] {o' : Oper} (hg : o.guard = some (i, b)) (ho : ops[i]? = some o') (hd : o'.dst = some d) (hl : look s d = some (.bool (decide p)))
    (ht : p → SL P G n ops Q (o :: rest) ((d, .bool true) :: s) H) (hf : ¬ p → SL P G n ops Q (o :: rest) ((d, .bool false) :: s) H) : SL P G n ops Q (o :: rest) s H := sl_split hg ho hd hl (fun h => ht (of_decide_eq_true h)) (fun h => hf (of_decide_eq_false h))
theorem sl_split_beq {i d : Nat} {b : Bool} {x y : Int} {o' : Oper} (hg : o.guard = some (i, b)) (ho : ops[i]? = some o') (hd : o'.dst = some d) (hl : look s d = some (.bool (x == y)))
    (ht : x = y → SL P G n ops Q (o :: rest) ((d, .bool true) :: s) H) (hf : ¬ x = y → SL P G n ops Q (o :: rest) ((d, .bool false) :: s) H) : SL P G n ops Q (o :: rest) s H := sl_split hg ho hd hl (fun h => ht (by simpa using h)) (fun h => hf (by simpa using h))
theorem sl_split_bne {i d : Nat} {b : Bool} {x y : Int} {o' : Oper} (hg : o.guard = some (i, b)) (ho : ops[i]? = some o') (hd : o'.dst = some d) (hl : look s d = some (.bool (x != y)))
    (ht : ¬ x = y → SL P G n ops Q (o :: rest) ((d, .bool true) :: s) H) (hf : x = y → SL P G n ops Q (o :: rest) ((d, .bool false) :: s) H) : SL P G n ops Q (o :: rest) s H := sl_split hg ho hd hl (fun h => ht (by simpa using h)) (fun h => hf (by simpa using h))
theorem sq_split_dec {Q : Fm → Prop} {i d : Nat} {b : Bool} {p : Prop} [Decidable p] {o' : Oper} (hg : o.guard = some (i, b)) (ho : ops[i]? = some o') (hd : o'.dst = some d) (hl : look s d = some (.bool (decide p)))
    (ht : p → SQ P G n ops Q H (o :: rest) ((d, .bool true) :: s)) (hf : ¬ p → SQ P G n ops Q H (o :: rest) ((d, .bool false) :: s)) : SQ P G n ops Q H (o :: rest) s := sq_split hg ho hd hl (fun h => ht (of_decide_eq_true h)) (fun h => hf (of_decide_eq_false h))
theorem sq_split_beq {Q : Fm → Prop} {i d : Nat} {b : Bool} {x y : Int} {o' : Oper} (hg : o.guard = some (i, b)) (ho : ops[i]? = some o') (hd : o'.dst = some d) (hl : look s d = some (.bool (x == y)))
    (ht : x = y → SQ P G n ops Q H (o :: rest) ((d, .bool true) :: s)) (hf : ¬ x = y → SQ P G n ops Q H (o :: rest) ((d, .bool false) :: s)) : SQ P G n ops Q H (o :: rest) s := sq_split hg ho hd hl (fun h => ht (by simpa using h)) (fun h => hf (by simpa using h))
theorem sq_split_bne {Q : Fm → Prop} {i d : Nat} {b : Bool} {x y : Int} {o' : Oper} (hg : o.guard = some (i, b)) (ho : ops[i]? = some o') (hd : o'.dst = some d) (hl : look s d = some (.bool (x != y)))
    (ht : ¬ x = y → SQ P G n ops Q H (o :: rest) ((d, .bool true) :: s)) (hf : x = y → SQ P G n ops Q H (o :: rest) ((d, .bool false) :: s)) : SQ P G n ops Q H (o :: rest) s := sq_split hg ho hd hl (fun h => ht (by simpa using h)) (fun h => hf (by simpa using h))
theorem sw_cond_dec {c : Operand} {x y : Code} {p : Prop} [Decidable p] (hc : ev s c = some (.bool (decide p))) (ht : p → SW P G n x Q s H) (hf : ¬ p → SW P G n y Q s H) : SW P G n (.cond c x y) Q s H := sw_cond hc (fun h => ht (of_decide_eq_true h)) (fun h => hf (of_decide_eq_false h))
theorem sw_cond_beq {c : Operand} {x y : Code} {u v : Int} (hc : ev s c = some (.bool (u == v))) (ht : u = v → SW P G n x Q s H) (hf : ¬ u = v → SW P G n y Q s H) : SW P G n (.cond c x y) Q s H := sw_cond hc (fun h => ht (by simpa using h)) (fun h => hf (by simpa using h))
theorem sw_cond_bne {c : Operand} {x y : Code} {u v : Int} (hc : ev s c = some (.bool (u != v))) (ht : ¬ u = v → SW P G n x Q s H) (hf : u = v → SW P G n y Q s H) : SW P G n (.cond c x y) Q s H := sw_cond hc (fun h => ht (by simpa using h)) (fun h => hf (by simpa using h))
theorem sw_cond_not {c : Operand} {x y : Code} {p : Prop} [Decidable p] (hc : ev s c = some (.bool (!decide p))) (ht : ¬ p → SW P G n x Q s H) (hf : p → SW P G n y Q s H) : SW P G n (.cond c x y) Q s H := sw_cond hc (fun h => ht (by simpa using h)) (fun h => hf (by simpa using h))
end
theorem rb_t {p : Prop} [Decidable p] (h : p) : resV [.bool true] = .bool (decide p) := by simp [resV, h]
theorem rb_f {p : Prop} [Decidable p] (h : ¬ p) : resV [.bool false] = .bool (decide p) := by simp [resV, h]
theorem rb_d {p q : Prop} [Decidable p] [Decidable q] (h : q ↔ p) : resV [.bool (decide q)] = .bool (decide p) := by simp [resV, h]
theorem rb_n {p q : Prop} [Decidable p] [Decidable q] (h : ¬ q ↔ p) : resV [.bool (!decide q)] = .bool (decide p) := by simp [resV, ← h]
theorem ri {k : IntKind} {m r : Int} (h : m = r) : resV [.int k m] = .int k r := by rw [h]; rfl
end Go.Sx
