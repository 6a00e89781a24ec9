/- Gates: which operation stands at the head; they fail at once where it is another. -/
import Derived.Test.YtgcnfcgnkfkpeaaSx8
namespace Go.Sx
open Go Go.RowKit Go.Fw
section
variable {P : Program} {G : Ctx} {n : Nat} {ops : Array Oper} {Q : Post} {s : Fm} {H : List Ent} {rest : List Oper} {d : Option Nat} {ty : TypeId} {pos : String} {af : Array Edge} {K : Value → Prop} {x y : Operand} {t t' : TypeId} {i : Nat} {vx vy : Value}
theorem ks_move (h : SL P G n ops Q (⟨d, Op.move x, ty, pos, af, none⟩ :: rest) s H) : SL P G n ops Q (⟨d, Op.move x, ty, pos, af, none⟩ :: rest) s H := h
theorem ks_bin {op : BinOp} (h : SL P G n ops Q (⟨d, Op.binOp op t x y t', ty, pos, af, none⟩ :: rest) s H) : SL P G n ops Q (⟨d, Op.binOp op t x y t', ty, pos, af, none⟩ :: rest) s H := h
theorem ks_load (h : SL P G n ops Q (⟨d, Op.load t x, ty, pos, af, none⟩ :: rest) s H) : SL P G n ops Q (⟨d, Op.load t x, ty, pos, af, none⟩ :: rest) s H := h
theorem ks_asgn (h : SL P G n ops Q (⟨d, Op.assign x, ty, pos, af, none⟩ :: rest) s H) : SL P G n ops Q (⟨d, Op.assign x, ty, pos, af, none⟩ :: rest) s H := h
theorem ks_pick {c : Operand} (h : SL P G n ops Q (⟨d, Op.pick c x y, ty, pos, af, none⟩ :: rest) s H) : SL P G n ops Q (⟨d, Op.pick c x y, ty, pos, af, none⟩ :: rest) s H := h
theorem ks_field (h : SL P G n ops Q (⟨d, Op.fieldAddr t x i, ty, pos, af, none⟩ :: rest) s H) : SL P G n ops Q (⟨d, Op.fieldAddr t x i, ty, pos, af, none⟩ :: rest) s H := h
theorem ks_un {u : UnOp} (h : SL P G n ops Q (⟨d, Op.unOp u t x, ty, pos, af, none⟩ :: rest) s H) : SL P G n ops Q (⟨d, Op.unOp u t x, ty, pos, af, none⟩ :: rest) s H := h
theorem ks_extr (h : SL P G n ops Q (⟨d, Op.extract x i, ty, pos, af, none⟩ :: rest) s H) : SL P G n ops Q (⟨d, Op.extract x i, ty, pos, af, none⟩ :: rest) s H := h
theorem ks_build {parts : Array (Nat × Operand)} (h : SL P G n ops Q (⟨d, Op.build t parts, ty, pos, af, none⟩ :: rest) s H) : SL P G n ops Q (⟨d, Op.build t parts, ty, pos, af, none⟩ :: rest) s H := h
theorem ks_conv (h : SL P G n ops Q (⟨d, Op.convert t t' x, ty, pos, af, none⟩ :: rest) s H) : SL P G n ops Q (⟨d, Op.convert t t' x, ty, pos, af, none⟩ :: rest) s H := h
theorem ks_index (h : SL P G n ops Q (⟨d, Op.index t x y, ty, pos, af, none⟩ :: rest) s H) : SL P G n ops Q (⟨d, Op.index t x y, ty, pos, af, none⟩ :: rest) s H := h
theorem ks_indexA (h : SL P G n ops Q (⟨d, Op.indexAddr t x y, ty, pos, af, none⟩ :: rest) s H) : SL P G n ops Q (⟨d, Op.indexAddr t x y, ty, pos, af, none⟩ :: rest) s H := h
theorem ks_nilc (h : SL P G n ops Q (⟨d, Op.nilCheck x, ty, pos, af, none⟩ :: rest) s H) : SL P G n ops Q (⟨d, Op.nilCheck x, ty, pos, af, none⟩ :: rest) s H := h
theorem ks_store (h : SL P G n ops Q (⟨d, Op.store t x y, ty, pos, af, none⟩ :: rest) s H) : SL P G n ops Q (⟨d, Op.store t x y, ty, pos, af, none⟩ :: rest) s H := h
theorem ks_box (h : SL P G n ops Q (⟨d, Op.box t x, ty, pos, af, none⟩ :: rest) s H) : SL P G n ops Q (⟨d, Op.box t x, ty, pos, af, none⟩ :: rest) s H := h
theorem ks_alloc (h : SL P G n ops Q (⟨d, Op.alloc t, ty, pos, af, none⟩ :: rest) s H) : SL P G n ops Q (⟨d, Op.alloc t, ty, pos, af, none⟩ :: rest) s H := h
theorem ks_bs {parts : Array (Nat × Operand)} (h : SL P G n ops Q (⟨d, Op.buildSlice t i parts, ty, pos, af, none⟩ :: rest) s H) : SL P G n ops Q (⟨d, Op.buildSlice t i parts, ty, pos, af, none⟩ :: rest) s H := h
theorem ks_fn {xs : Array Operand} {ats : Array TypeId} (h : SL P G n ops Q (⟨d, Op.call { callee := .value (.func i), args := xs, argTypes := ats }, ty, pos, af, none⟩ :: rest) s H) : SL P G n ops Q (⟨d, Op.call { callee := .value (.func i), args := xs, argTypes := ats }, ty, pos, af, none⟩ :: rest) s H := h
theorem ks_bi {b : Builtin} {xs : Array Operand} {ats : Array TypeId} (h : SL P G n ops Q (⟨d, Op.call { callee := .builtin b, args := xs, argTypes := ats }, ty, pos, af, none⟩ :: rest) s H) : SL P G n ops Q (⟨d, Op.call { callee := .builtin b, args := xs, argTypes := ats }, ty, pos, af, none⟩ :: rest) s H := h
theorem ks_guard {op : Op} {g : Nat × Bool} (h : SL P G n ops Q (⟨d, op, ty, pos, af, some g⟩ :: rest) s H) : SL P G n ops Q (⟨d, op, ty, pos, af, some g⟩ :: rest) s H := h
theorem ks_nil (h : SL P G n ops Q [] s H) : SL P G n ops Q [] s H := h
theorem kq_move {Q : Fm → Prop} (h : SQ P G n ops Q H (⟨d, Op.move x, ty, pos, af, none⟩ :: rest) s) : SQ P G n ops Q H (⟨d, Op.move x, ty, pos, af, none⟩ :: rest) s := h
theorem kq_bin {Q : Fm → Prop} {op : BinOp} (h : SQ P G n ops Q H (⟨d, Op.binOp op t x y t', ty, pos, af, none⟩ :: rest) s) : SQ P G n ops Q H (⟨d, Op.binOp op t x y t', ty, pos, af, none⟩ :: rest) s := h
theorem kq_load {Q : Fm → Prop} (h : SQ P G n ops Q H (⟨d, Op.load t x, ty, pos, af, none⟩ :: rest) s) : SQ P G n ops Q H (⟨d, Op.load t x, ty, pos, af, none⟩ :: rest) s := h
theorem kq_asgn {Q : Fm → Prop} (h : SQ P G n ops Q H (⟨d, Op.assign x, ty, pos, af, none⟩ :: rest) s) : SQ P G n ops Q H (⟨d, Op.assign x, ty, pos, af, none⟩ :: rest) s := h
theorem kq_pick {Q : Fm → Prop} {c : Operand} (h : SQ P G n ops Q H (⟨d, Op.pick c x y, ty, pos, af, none⟩ :: rest) s) : SQ P G n ops Q H (⟨d, Op.pick c x y, ty, pos, af, none⟩ :: rest) s := h
theorem kq_field {Q : Fm → Prop} (h : SQ P G n ops Q H (⟨d, Op.fieldAddr t x i, ty, pos, af, none⟩ :: rest) s) : SQ P G n ops Q H (⟨d, Op.fieldAddr t x i, ty, pos, af, none⟩ :: rest) s := h
theorem kq_un {Q : Fm → Prop} {u : UnOp} (h : SQ P G n ops Q H (⟨d, Op.unOp u t x, ty, pos, af, none⟩ :: rest) s) : SQ P G n ops Q H (⟨d, Op.unOp u t x, ty, pos, af, none⟩ :: rest) s := h
theorem kq_extr {Q : Fm → Prop} (h : SQ P G n ops Q H (⟨d, Op.extract x i, ty, pos, af, none⟩ :: rest) s) : SQ P G n ops Q H (⟨d, Op.extract x i, ty, pos, af, none⟩ :: rest) s := h
theorem kq_build {Q : Fm → Prop} {parts : Array (Nat × Operand)} (h : SQ P G n ops Q H (⟨d, Op.build t parts, ty, pos, af, none⟩ :: rest) s) : SQ P G n ops Q H (⟨d, Op.build t parts, ty, pos, af, none⟩ :: rest) s := h
theorem kq_conv {Q : Fm → Prop} (h : SQ P G n ops Q H (⟨d, Op.convert t t' x, ty, pos, af, none⟩ :: rest) s) : SQ P G n ops Q H (⟨d, Op.convert t t' x, ty, pos, af, none⟩ :: rest) s := h
theorem kq_index {Q : Fm → Prop} (h : SQ P G n ops Q H (⟨d, Op.index t x y, ty, pos, af, none⟩ :: rest) s) : SQ P G n ops Q H (⟨d, Op.index t x y, ty, pos, af, none⟩ :: rest) s := h
theorem kq_indexA {Q : Fm → Prop} (h : SQ P G n ops Q H (⟨d, Op.indexAddr t x y, ty, pos, af, none⟩ :: rest) s) : SQ P G n ops Q H (⟨d, Op.indexAddr t x y, ty, pos, af, none⟩ :: rest) s := h
theorem kq_nilc {Q : Fm → Prop} (h : SQ P G n ops Q H (⟨d, Op.nilCheck x, ty, pos, af, none⟩ :: rest) s) : SQ P G n ops Q H (⟨d, Op.nilCheck x, ty, pos, af, none⟩ :: rest) s := h
theorem kq_store {Q : Fm → Prop} (h : SQ P G n ops Q H (⟨d, Op.store t x y, ty, pos, af, none⟩ :: rest) s) : SQ P G n ops Q H (⟨d, Op.store t x y, ty, pos, af, none⟩ :: rest) s := h
theorem kq_box {Q : Fm → Prop} (h : SQ P G n ops Q H (⟨d, Op.box t x, ty, pos, af, none⟩ :: rest) s) : SQ P G n ops Q H (⟨d, Op.box t x, ty, pos, af, none⟩ :: rest) s := h
theorem kq_alloc {Q : Fm → Prop} (h : SQ P G n ops Q H (⟨d, Op.alloc t, ty, pos, af, none⟩ :: rest) s) : SQ P G n ops Q H (⟨d, Op.alloc t, ty, pos, af, none⟩ :: rest) s := h
theorem kq_bs {Q : Fm → Prop} {parts : Array (Nat × Operand)} (h : SQ P G n ops Q H (⟨d, Op.buildSlice t i parts, ty, pos, af, none⟩ :: rest) s) : SQ P G n ops Q H (⟨d, Op.buildSlice t i parts, ty, pos, af, none⟩ :: rest) s := h
theorem kq_fn {Q : Fm → Prop} {xs : Array Operand} {ats : Array TypeId} (h : SQ P G n ops Q H (⟨d, Op.call { callee := .value (.func i), args := xs, argTypes := ats }, ty, pos, af, none⟩ :: rest) s) : SQ P G n ops Q H (⟨d, Op.call { callee := .value (.func i), args := xs, argTypes := ats }, ty, pos, af, none⟩ :: rest) s := h
theorem kq_bi {Q : Fm → Prop} {b : Builtin} {xs : Array Operand} {ats : Array TypeId} (h : SQ P G n ops Q H (⟨d, Op.call { callee := .builtin b, args := xs, argTypes := ats }, ty, pos, af, none⟩ :: rest) s) : SQ P G n ops Q H (⟨d, Op.call { callee := .builtin b, args := xs, argTypes := ats }, ty, pos, af, none⟩ :: rest) s := h
theorem kq_guard {Q : Fm → Prop} {op : Op} {g : Nat × Bool} (h : SQ P G n ops Q H (⟨d, op, ty, pos, af, some g⟩ :: rest) s) : SQ P G n ops Q H (⟨d, op, ty, pos, af, some g⟩ :: rest) s := h
theorem kq_nil {Q : Fm → Prop} (h : SQ P G n ops Q H [] s) : SQ P G n ops Q H [] s := h
theorem kb_add (h : BB P .add t x y vx vy K) : BB P .add t x y vx vy K := h
theorem kb_sub (h : BB P .sub t x y vx vy K) : BB P .sub t x y vx vy K := h
theorem kb_mul (h : BB P .mul t x y vx vy K) : BB P .mul t x y vx vy K := h
theorem kb_quo (h : BB P .quo t x y vx vy K) : BB P .quo t x y vx vy K := h
theorem kb_rem (h : BB P .rem t x y vx vy K) : BB P .rem t x y vx vy K := h
theorem kb_and (h : BB P .and t x y vx vy K) : BB P .and t x y vx vy K := h
theorem kb_or (h : BB P .or t x y vx vy K) : BB P .or t x y vx vy K := h
theorem kb_xor (h : BB P .xor t x y vx vy K) : BB P .xor t x y vx vy K := h
theorem kb_andNot (h : BB P .andNot t x y vx vy K) : BB P .andNot t x y vx vy K := h
theorem kb_shl (h : BB P .shl t x y vx vy K) : BB P .shl t x y vx vy K := h
theorem kb_shr (h : BB P .shr t x y vx vy K) : BB P .shr t x y vx vy K := h
theorem kb_eql (h : BB P .eql t x y vx vy K) : BB P .eql t x y vx vy K := h
theorem kb_neq (h : BB P .neq t x y vx vy K) : BB P .neq t x y vx vy K := h
theorem kb_lss (h : BB P .lss t x y vx vy K) : BB P .lss t x y vx vy K := h
theorem kb_leq (h : BB P .leq t x y vx vy K) : BB P .leq t x y vx vy K := h
theorem kb_gtr (h : BB P .gtr t x y vx vy K) : BB P .gtr t x y vx vy K := h
theorem kb_geq (h : BB P .geq t x y vx vy K) : BB P .geq t x y vx vy K := h
theorem kp_t (h : PK s true x y K) : PK s true x y K := h
theorem kp_f (h : PK s false x y K) : PK s false x y K := h
end
end Go.Sx
