/- One lemma for each kind of operation, over the calculus of XCore. It names no program. Conditions: none. -/
import Derived.Test.YtimckjnnjakcoaaCore
set_option linter.unusedVariables false
set_option linter.unusedSimpArgs false
namespace Go.Vl
open Go

/-- The size of a type's values, in cells. -/
def szE (P : Program) (t : TypeId) : Option Nat := (P.info? t).map (·.size)
def zeroE (P : Program) (t : TypeId) : Option Value := (P.info? t).bind (·.zero)
def bytesE (P : Program) (t : TypeId) : Option Nat := (P.info? t).map (·.bytes)
/-- Values of the type are one cell each. -/
def plainE (P : Program) (t : TypeId) : Bool := match P.underlying t with
  | some (.struct _) | some (.array ..) | none => false
  | some _ => true
def aggE (P : Program) (t : TypeId) : Bool := match P.underlying t with
  | some (.struct _) | some (.array ..) => true
  | _ => false

section
variable {P : Program} {w : World}
theorem run_size {t : TypeId} {k : Nat} (h : szE P t = some k) : (sizeOf t).run P w = .ok k w := by
  unfold szE at h
  cases hi : P.info? t with
  | none => rw [hi] at h; cases h
  | some i => rw [hi] at h; simp at h; simp [sizeOf, typeInfo, hi, h, program, bind, Sem.bind, Sem.run, pure]
theorem run_bytes {t : TypeId} {k : Nat} (h : bytesE P t = some k) : ∃ i, (typeInfo t).run P w = .ok i w ∧ i.bytes = k := by
  unfold bytesE at h
  cases hi : P.info? t with
  | none => rw [hi] at h; cases h
  | some i => rw [hi] at h; simp at h; exact ⟨i, by simp [typeInfo, hi, program, bind, Sem.bind, Sem.run, pure], h⟩
theorem run_zeroV {t : TypeId} {v : Value} (h : zeroE P t = some v) : (zeroValue t).run P w = .ok v w := by
  unfold zeroE at h
  cases hi : P.info? t with
  | none => rw [hi] at h; cases h
  | some i => rw [hi] at h; simp at h; simp [zeroValue, typeInfo, hi, h, program, bind, Sem.bind, Sem.run, pure]
theorem run_und {t : TypeId} {d : TypeDesc} (h : P.underlying t = some d) : (underlying t).run P w = .ok d w := by
  simp [underlying, h, program, bind, Sem.bind, Sem.run, pure]
theorem run_isAgg_f {t : TypeId} (h : plainE P t = true) : (isAgg t).run P w = .ok false w := by
  unfold plainE at h
  cases hu : P.underlying t with
  | none => rw [hu] at h; cases h
  | some d => rw [hu] at h; cases d <;> simp_all [isAgg, underlying, hu, program, bind, Sem.bind, Sem.run, pure]
theorem run_isAgg_t {t : TypeId} (h : aggE P t = true) : (isAgg t).run P w = .ok true w := by
  unfold aggE at h
  cases hu : P.underlying t with
  | none => rw [hu] at h; cases h
  | some d => rw [hu] at h; cases d <;> simp_all [isAgg, underlying, hu, program, bind, Sem.bind, Sem.run, pure]
theorem run_bind {α β : Type} {s : Sem α} {f : α → Sem β} {a : α} {w' : World} (h : s.run P w = .ok a w') : (s >>= f).run P w = (f a).run P w' := by
  rw [Sem.run_bind, h]; rfl
end

section
variable {P : Program} {n : Nat} {ρ : Env} {A : SP} {dst : Option Tmp} {ty : TypeId} {pos : String} {after : Array Edge} {gd : Option (Nat × Bool)}

/-- What an operation yields, by the run of its one part. -/
theorem opv_of {o : Oper} {v : Value} (h : ∀ w, (execOp (ev n ρ) o).run P w = .ok (.value v) w) : OpV P n ρ A o v := fun _ w _ => h w

theorem o_assign {x : Operand} {v : Value} (h : ev n ρ x = v) : OpV P n ρ A ⟨dst, .assign x, ty, pos, after, gd⟩ v := opv_of fun w => by
  simp [execOp, h, pure]
theorem o_move {x : Operand} {v : Value} (h : ev n ρ x = v) : OpV P n ρ A ⟨dst, .move x, ty, pos, after, gd⟩ v := opv_of fun w => by
  simp [execOp, h, pure]
theorem o_pick {c x y : Operand} {b : Bool} {v : Value} (h : ev n ρ c = .bool b) (hv : (if b then ev n ρ x else ev n ρ y) = v) : OpV P n ρ A ⟨dst, .pick c x y, ty, pos, after, gd⟩ v := opv_of fun w => by
  simp [execOp, h, pure, asBool, bind, Sem.bind, hv]
theorem o_pick_t {c x y : Operand} {v : Value} (h : ev n ρ c = .bool true) (hv : ev n ρ x = v) : OpV P n ρ A ⟨dst, .pick c x y, ty, pos, after, gd⟩ v := o_pick h (by simpa using hv)
theorem o_pick_f {c x y : Operand} {v : Value} (h : ev n ρ c = .bool false) (hv : ev n ρ y = v) : OpV P n ρ A ⟨dst, .pick c x y, ty, pos, after, gd⟩ v := o_pick h (by simpa using hv)
theorem o_nilCheck {x : Operand} {a : Addr} (h : ev n ρ x = .pointer (some a)) : OpV P n ρ A ⟨dst, .nilCheck x, ty, pos, after, gd⟩ (.pointer (some a)) := opv_of fun w => by
  simp [execOp, h, pure]
theorem o_extract {x : Operand} {vs : List Value} {i : Nat} {v : Value} (h : ev n ρ x = .tuple vs.toArray) (hv : vs[i]? = some v) : OpV P n ρ A ⟨dst, .extract x i, ty, pos, after, gd⟩ v := opv_of fun w => by
  simp [execOp, h, Instr.extract, pure, bind, Sem.bind, hv]

/-! ### Numbers -/

theorem o_add {t t' : TypeId} {x y : Operand} {k : IntKind} {a b : Int} (hx : ev n ρ x = .int k a) (hy : ev n ρ y = .int k b) :
    OpV P n ρ A ⟨dst, .binOp .add t x y t', ty, pos, after, gd⟩ (.int k (k.wrap (a + b))) := opv_of fun w => by
  simp [execOp, hx, hy, eqGuard, binOp, Op.intArith, pure, bind, Sem.bind]
theorem o_sub {t t' : TypeId} {x y : Operand} {k : IntKind} {a b : Int} (hx : ev n ρ x = .int k a) (hy : ev n ρ y = .int k b) :
    OpV P n ρ A ⟨dst, .binOp .sub t x y t', ty, pos, after, gd⟩ (.int k (k.wrap (a - b))) := opv_of fun w => by
  simp [execOp, hx, hy, eqGuard, binOp, Op.intArith, pure, bind, Sem.bind]
theorem o_mul {t t' : TypeId} {x y : Operand} {k : IntKind} {a b : Int} (hx : ev n ρ x = .int k a) (hy : ev n ρ y = .int k b) :
    OpV P n ρ A ⟨dst, .binOp .mul t x y t', ty, pos, after, gd⟩ (.int k (k.wrap (a * b))) := opv_of fun w => by
  simp [execOp, hx, hy, eqGuard, binOp, Op.intArith, pure, bind, Sem.bind]
theorem o_quo {t t' : TypeId} {x y : Operand} {k : IntKind} {a b : Int} (hx : ev n ρ x = .int k a) (hy : ev n ρ y = .int k b) (hb : b ≠ 0) :
    OpV P n ρ A ⟨dst, .binOp .quo t x y t', ty, pos, after, gd⟩ (.int k (k.wrap (a.tdiv b))) := opv_of fun w => by
  simp [execOp, hx, hy, eqGuard, binOp, Op.intDiv, pure, bind, Sem.bind, hb]
theorem o_rem {t t' : TypeId} {x y : Operand} {k : IntKind} {a b : Int} (hx : ev n ρ x = .int k a) (hy : ev n ρ y = .int k b) (hb : b ≠ 0) :
    OpV P n ρ A ⟨dst, .binOp .rem t x y t', ty, pos, after, gd⟩ (.int k (a.tmod b)) := opv_of fun w => by
  simp [execOp, hx, hy, eqGuard, binOp, Op.intDiv, pure, bind, Sem.bind, hb]
theorem o_and {t t' : TypeId} {x y : Operand} {k : IntKind} {a b : Int} (hx : ev n ρ x = .int k a) (hy : ev n ρ y = .int k b) :
    OpV P n ρ A ⟨dst, .binOp .and t x y t', ty, pos, after, gd⟩ (.int k (k.wrap ((BitVec.ofInt k.bits a &&& BitVec.ofInt k.bits b).toNat))) := opv_of fun w => by
  simp [execOp, hx, hy, eqGuard, binOp, Op.intBits, pure, bind, Sem.bind]
theorem o_or {t t' : TypeId} {x y : Operand} {k : IntKind} {a b : Int} (hx : ev n ρ x = .int k a) (hy : ev n ρ y = .int k b) :
    OpV P n ρ A ⟨dst, .binOp .or t x y t', ty, pos, after, gd⟩ (.int k (k.wrap ((BitVec.ofInt k.bits a ||| BitVec.ofInt k.bits b).toNat))) := opv_of fun w => by
  simp [execOp, hx, hy, eqGuard, binOp, Op.intBits, pure, bind, Sem.bind]
theorem o_xor {t t' : TypeId} {x y : Operand} {k : IntKind} {a b : Int} (hx : ev n ρ x = .int k a) (hy : ev n ρ y = .int k b) :
    OpV P n ρ A ⟨dst, .binOp .xor t x y t', ty, pos, after, gd⟩ (.int k (k.wrap ((BitVec.ofInt k.bits a ^^^ BitVec.ofInt k.bits b).toNat))) := opv_of fun w => by
  simp [execOp, hx, hy, eqGuard, binOp, Op.intBits, pure, bind, Sem.bind]
theorem o_shl {t t' : TypeId} {x y : Operand} {k k' : IntKind} {a b : Int} (hx : ev n ρ x = .int k a) (hy : ev n ρ y = .int k' b) (hb : 0 ≤ b) :
    OpV P n ρ A ⟨dst, .binOp .shl t x y t', ty, pos, after, gd⟩ (.int k (k.wrap (a * 2 ^ (min b.toNat k.bits)))) := opv_of fun w => by
  simp [execOp, hx, hy, eqGuard, binOp, Op.shift, pure, bind, Sem.bind, Int.not_lt.2 hb]
theorem o_shr {t t' : TypeId} {x y : Operand} {k k' : IntKind} {a b : Int} (hx : ev n ρ x = .int k a) (hy : ev n ρ y = .int k' b) (hb : 0 ≤ b) :
    OpV P n ρ A ⟨dst, .binOp .shr t x y t', ty, pos, after, gd⟩ (.int k (a.fdiv (2 ^ (min b.toNat k.bits)))) := opv_of fun w => by
  simp [execOp, hx, hy, eqGuard, binOp, Op.shift, pure, bind, Sem.bind, Int.not_lt.2 hb]
theorem o_lss {t t' : TypeId} {x y : Operand} {k : IntKind} {a b : Int} (hx : ev n ρ x = .int k a) (hy : ev n ρ y = .int k b) :
    OpV P n ρ A ⟨dst, .binOp .lss t x y t', ty, pos, after, gd⟩ (.bool (decide (a < b))) := opv_of fun w => by
  simp [execOp, hx, hy, eqGuard, binOp, Op.intCmp, pure, bind, Sem.bind]
theorem o_leq {t t' : TypeId} {x y : Operand} {k : IntKind} {a b : Int} (hx : ev n ρ x = .int k a) (hy : ev n ρ y = .int k b) :
    OpV P n ρ A ⟨dst, .binOp .leq t x y t', ty, pos, after, gd⟩ (.bool (decide (a ≤ b))) := opv_of fun w => by
  simp [execOp, hx, hy, eqGuard, binOp, Op.intCmp, pure, bind, Sem.bind]
theorem o_gtr {t t' : TypeId} {x y : Operand} {k : IntKind} {a b : Int} (hx : ev n ρ x = .int k a) (hy : ev n ρ y = .int k b) :
    OpV P n ρ A ⟨dst, .binOp .gtr t x y t', ty, pos, after, gd⟩ (.bool (decide (b < a))) := opv_of fun w => by
  simp [execOp, hx, hy, eqGuard, binOp, Op.intCmp, pure, bind, Sem.bind]
theorem o_geq {t t' : TypeId} {x y : Operand} {k : IntKind} {a b : Int} (hx : ev n ρ x = .int k a) (hy : ev n ρ y = .int k b) :
    OpV P n ρ A ⟨dst, .binOp .geq t x y t', ty, pos, after, gd⟩ (.bool (decide (b ≤ a))) := opv_of fun w => by
  simp [execOp, hx, hy, eqGuard, binOp, Op.intCmp, pure, bind, Sem.bind]
theorem o_eqi {t t' : TypeId} {x y : Operand} {k : IntKind} {a b : Int} (hx : ev n ρ x = .int k a) (hy : ev n ρ y = .int k b) :
    OpV P n ρ A ⟨dst, .binOp .eql t x y t', ty, pos, after, gd⟩ (.bool (decide (a = b))) := opv_of fun w => by
  have : (a == b) = decide (a = b) := by rw [Bool.eq_iff_iff]; simp
  simp [execOp, hx, hy, eqGuard, binOp, Op.intCmp, pure, bind, Sem.bind, this]
theorem o_nei {t t' : TypeId} {x y : Operand} {k : IntKind} {a b : Int} (hx : ev n ρ x = .int k a) (hy : ev n ρ y = .int k b) :
    OpV P n ρ A ⟨dst, .binOp .neq t x y t', ty, pos, after, gd⟩ (.bool (decide (a ≠ b))) := opv_of fun w => by
  have : (a != b) = decide (a ≠ b) := by rw [Bool.eq_iff_iff]; simp
  simp [execOp, hx, hy, eqGuard, binOp, Op.intCmp, pure, bind, Sem.bind, this]

theorem o_not {t : TypeId} {x : Operand} {b : Bool} (hx : ev n ρ x = .bool b) : OpV P n ρ A ⟨dst, .unOp .not t x, ty, pos, after, gd⟩ (.bool (!b)) := opv_of fun w => by
  simp [execOp, hx, Op.unary, pure, bind, Sem.bind]
theorem o_neg {t : TypeId} {x : Operand} {k : IntKind} {a : Int} (hx : ev n ρ x = .int k a) : OpV P n ρ A ⟨dst, .unOp .neg t x, ty, pos, after, gd⟩ (.int k (k.wrap (0 - a))) := opv_of fun w => by
  simp [execOp, hx, Op.unary, Op.intArith, pure, bind, Sem.bind]
theorem o_compl {t : TypeId} {x : Operand} {k : IntKind} {a : Int} (hx : ev n ρ x = .int k a) :
    OpV P n ρ A ⟨dst, .unOp .xor t x, ty, pos, after, gd⟩ (.int k (k.wrap ((BitVec.ofInt k.bits (if k.signed then -1 else k.max) ^^^ BitVec.ofInt k.bits a).toNat))) := opv_of fun w => by
  simp [execOp, hx, Op.unary, Op.intBits, pure, bind, Sem.bind]
theorem o_conv {s t : TypeId} {d : TypeDesc} {x : Operand} {k k' : IntKind} {a : Int} (hs : P.underlying s = some d) (ht : P.underlying t = some (.int k')) (hx : ev n ρ x = .int k a) :
    OpV P n ρ A ⟨dst, .convert s t x, ty, pos, after, gd⟩ (.int k' (k'.wrap a)) := opv_of fun w => by
  simp only [execOp, hx, convert]
  rw [run_bind (a := .int k' (k'.wrap a)) (w' := w)]
  · rfl
  rw [run_bind (run_und hs), run_bind (run_und ht)]
  cases d <;> rfl

/-! ### int's arithmetic where nothing wraps -/

theorem o_addI {t t' : TypeId} {x y : Operand} {a b : Int} (hx : ev n ρ x = .int .i64 a) (hy : ev n ρ y = .int .i64 b) (h : -9223372036854775808 ≤ a + b ∧ a + b ≤ 9223372036854775807) :
    OpV P n ρ A ⟨dst, .binOp .add t x y t', ty, pos, after, gd⟩ (.int .i64 (a + b)) := by
  have := o_add (P := P) (A := A) (dst := dst) (ty := ty) (pos := pos) (after := after) (gd := gd) (t := t) (t' := t') hx hy
  rwa [IntWalk.i64_in _ h] at this
theorem o_subI {t t' : TypeId} {x y : Operand} {a b : Int} (hx : ev n ρ x = .int .i64 a) (hy : ev n ρ y = .int .i64 b) (h : -9223372036854775808 ≤ a - b ∧ a - b ≤ 9223372036854775807) :
    OpV P n ρ A ⟨dst, .binOp .sub t x y t', ty, pos, after, gd⟩ (.int .i64 (a - b)) := by
  have := o_sub (P := P) (A := A) (dst := dst) (ty := ty) (pos := pos) (after := after) (gd := gd) (t := t) (t' := t') hx hy
  rwa [IntWalk.i64_in _ h] at this
theorem o_mulI {t t' : TypeId} {x y : Operand} {a b : Int} (hx : ev n ρ x = .int .i64 a) (hy : ev n ρ y = .int .i64 b) (h : -9223372036854775808 ≤ a * b ∧ a * b ≤ 9223372036854775807) :
    OpV P n ρ A ⟨dst, .binOp .mul t x y t', ty, pos, after, gd⟩ (.int .i64 (a * b)) := by
  have := o_mul (P := P) (A := A) (dst := dst) (ty := ty) (pos := pos) (after := after) (gd := gd) (t := t) (t' := t') hx hy
  rwa [IntWalk.i64_in _ h] at this
theorem o_quoI {t t' : TypeId} {x y : Operand} {a b : Int} (hx : ev n ρ x = .int .i64 a) (hy : ev n ρ y = .int .i64 b) (h : 0 ≤ a ∧ 0 < b ∧ a ≤ 9223372036854775807) :
    OpV P n ρ A ⟨dst, .binOp .quo t x y t', ty, pos, after, gd⟩ (.int .i64 (a / b)) := by
  have := o_quo (P := P) (A := A) (dst := dst) (ty := ty) (pos := pos) (after := after) (gd := gd) (t := t) (t' := t') hx hy (by omega)
  rw [Int.tdiv_eq_ediv_of_nonneg h.1] at this
  have h1 : 0 ≤ a / b := Int.ediv_nonneg h.1 (by omega)
  have h2 : a / b ≤ a := Int.ediv_le_self b h.1
  rwa [IntWalk.i64_in _ (by omega)] at this
theorem o_remI {t t' : TypeId} {x y : Operand} {k : IntKind} {a b : Int} (hx : ev n ρ x = .int k a) (hy : ev n ρ y = .int k b) (h : 0 ≤ a ∧ 0 < b) :
    OpV P n ρ A ⟨dst, .binOp .rem t x y t', ty, pos, after, gd⟩ (.int k (a % b)) := by
  have := o_rem (P := P) (A := A) (dst := dst) (ty := ty) (pos := pos) (after := after) (gd := gd) (t := t) (t' := t') hx hy (by omega)
  rwa [Int.tmod_eq_emod_of_nonneg h.1] at this

/-! ### Equality of what is no number -/

theorem equal_run {t : TypeId} {d : TypeDesc} {vx vy : Value} {r : Bool} {w : World} (hu : P.underlying t = some d) (k : ∀ m, (Op.equalIn (m + 1) t vx vy).run P w = .ok r w) : (Op.equal t vx vy).run P w = .ok r w := k 9999

theorem o_eq_core {t t' : TypeId} {x y : Operand} {vx vy : Value} {r : Bool} (hx : ev n ρ x = vx) (hy : ev n ρ y = vy) (hg : eqGuard .eql t x y vx vy = Sem.pure ()) (hb : binOp .eql t vx vy = (do pure (.bool (← Op.equal t vx vy))))
    (he : ∀ w, (Op.equal t vx vy).run P w = .ok r w) : OpV P n ρ A ⟨dst, .binOp .eql t x y t', ty, pos, after, gd⟩ (.bool r) := opv_of fun w => by
  simp only [execOp, hx, hy, hg, hb]
  rw [run_bind (a := .bool r) (w' := w)]
  · rfl
  rw [run_bind (a := ()) (w' := w) rfl, run_bind (he w)]
  rfl
theorem o_ne_core {t t' : TypeId} {x y : Operand} {vx vy : Value} {r : Bool} (hx : ev n ρ x = vx) (hy : ev n ρ y = vy) (hg : eqGuard .neq t x y vx vy = Sem.pure ()) (hb : binOp .neq t vx vy = (do pure (.bool (!(← Op.equal t vx vy)))))
    (he : ∀ w, (Op.equal t vx vy).run P w = .ok r w) : OpV P n ρ A ⟨dst, .binOp .neq t x y t', ty, pos, after, gd⟩ (.bool (!r)) := opv_of fun w => by
  simp only [execOp, hx, hy, hg, hb]
  rw [run_bind (a := .bool (!r)) (w' := w)]
  · rfl
  rw [run_bind (a := ()) (w' := w) rfl, run_bind (he w)]
  rfl

theorem eqb_run {t : TypeId} {a b : Bool} {w : World} (hu : P.underlying t = some .bool) : (Op.equal t (.bool a) (.bool b)).run P w = .ok (a == b) w := equal_run hu fun m => by
  rw [Op.equalIn, run_bind (run_und hu)]; rfl
theorem o_eqb {t t' : TypeId} {x y : Operand} {a b : Bool} (hu : P.underlying t = some .bool) (hx : ev n ρ x = .bool a) (hy : ev n ρ y = .bool b) :
    OpV P n ρ A ⟨dst, .binOp .eql t x y t', ty, pos, after, gd⟩ (.bool (a == b)) := o_eq_core hx hy rfl rfl fun w => eqb_run hu
theorem o_neb {t t' : TypeId} {x y : Operand} {a b : Bool} (hu : P.underlying t = some .bool) (hx : ev n ρ x = .bool a) (hy : ev n ρ y = .bool b) :
    OpV P n ρ A ⟨dst, .binOp .neq t x y t', ty, pos, after, gd⟩ (.bool (!(a == b))) := o_ne_core hx hy rfl rfl fun w => eqb_run hu
theorem eqp_run {t e : TypeId} {a : Option Addr} {w : World} (hu : P.underlying t = some (.pointer e)) : (Op.equal t (.pointer a) (.pointer none)).run P w = .ok a.isNone w := equal_run hu fun m => by
  rw [Op.equalIn, run_bind (run_und hu)]; cases a <;> rfl
theorem o_eqp {t t' e : TypeId} {x y : Operand} {a : Option Addr} (hu : P.underlying t = some (.pointer e)) (hx : ev n ρ x = .pointer a) (hy : ev n ρ y = .pointer none) :
    OpV P n ρ A ⟨dst, .binOp .eql t x y t', ty, pos, after, gd⟩ (.bool a.isNone) := o_eq_core hx hy rfl rfl fun w => eqp_run hu
theorem o_nep {t t' e : TypeId} {x y : Operand} {a : Option Addr} (hu : P.underlying t = some (.pointer e)) (hx : ev n ρ x = .pointer a) (hy : ev n ρ y = .pointer none) :
    OpV P n ρ A ⟨dst, .binOp .neq t x y t', ty, pos, after, gd⟩ (.bool (!a.isNone)) := o_ne_core hx hy rfl rfl fun w => eqp_run hu
theorem eqs_run {t e : TypeId} {a : Option Addr} {l c : Nat} {w : World} (hu : P.underlying t = some (.slice e)) : (Op.equal t (.slice a l c) (.slice none 0 0)).run P w = .ok a.isNone w := equal_run hu fun m => by
  rw [Op.equalIn, run_bind (run_und hu)]; cases a <;> rfl
theorem o_eqs {t t' e : TypeId} {x y : Operand} {a : Option Addr} {l c : Nat} (hu : P.underlying t = some (.slice e)) (hx : ev n ρ x = .slice a l c) (hy : ev n ρ y = .slice none 0 0) :
    OpV P n ρ A ⟨dst, .binOp .eql t x y t', ty, pos, after, gd⟩ (.bool a.isNone) := o_eq_core hx hy rfl rfl fun w => eqs_run hu
theorem o_nes {t t' e : TypeId} {x y : Operand} {a : Option Addr} {l c : Nat} (hu : P.underlying t = some (.slice e)) (hx : ev n ρ x = .slice a l c) (hy : ev n ρ y = .slice none 0 0) :
    OpV P n ρ A ⟨dst, .binOp .neq t x y t', ty, pos, after, gd⟩ (.bool (!a.isNone)) := o_ne_core hx hy rfl rfl fun w => eqs_run hu

/-! ### Addresses -/

theorem o_fieldAddr {t : TypeId} {x : Operand} {i : Nat} {b off : Nat} {fs : Array Field} {f : Field} {k o : Nat} (hu : P.underlying t = some (.struct fs)) (hf : fs[i]? = some f) (ho : f.offset = o) (hk : szE P f.type = some (k + 1))
    (hx : ev n ρ x = .pointer (some ⟨b, off, none⟩)) : OpV P n ρ A ⟨dst, .fieldAddr t x i, ty, pos, after, gd⟩ (.pointer (some ⟨b, off + o, none⟩)) := opv_of fun w => by
  subst ho
  simp only [execOp, hx, Instr.fieldAt]
  rw [run_bind (a := .pointer (some ⟨b, off + f.offset, none⟩)) (w' := w)]
  · rfl
  rw [run_bind (run_und hu)]
  simp only [hf, Instr.sureAddr, fieldPlace]
  have ha : (⟨b, off, none⟩ : Addr).add f.offset = ⟨b, off + f.offset, none⟩ := by
    unfold Addr.add; split
    · rename_i h0; simp [h0]
    · rfl
  rw [run_bind (w' := w) (a := (⟨b, off, none⟩ : Addr)) rfl]
  rw [run_bind (w' := w) (a := (⟨b, off + f.offset, none⟩ : Addr))]
  · rfl
  rw [run_bind (run_size hk)]
  simp [ha, pure]

theorem addr_add (b off k : Nat) : (⟨b, off, none⟩ : Addr).add k = ⟨b, off + k, none⟩ := by
  unfold Addr.add; split
  · rename_i h0; simp [h0]
  · rfl

theorem o_indexAddr {t e : TypeId} {x y : Operand} {b off len cap k : Nat} {ik : IntKind} {i : Int} (hu : P.underlying t = some (.slice e)) (hk : szE P e = some k)
    (hx : ev n ρ x = .slice (some ⟨b, off, none⟩) len cap) (hy : ev n ρ y = .int ik i) (h0 : 0 ≤ i) (h1 : i < len) :
    OpV P n ρ A ⟨dst, .indexAddr t x y, ty, pos, after, gd⟩ (.pointer (some ⟨b, off + i.toNat * k, none⟩)) := opv_of fun w => by
  simp only [execOp, hx, hy, Instr.indexAt, asIntOf]
  rw [run_bind (a := .pointer (some ⟨b, off + i.toNat * k, none⟩)) (w' := w)]
  · rfl
  rw [run_bind (w' := w) (a := (ik, i)) rfl, run_bind (run_und hu)]
  simp only []
  rw [run_bind (w' := w) (a := (some ⟨b, off, none⟩, len, e)) rfl]
  simp only []
  rw [run_bind (run_und hu)]
  simp only [h0, h1, and_self, if_true, run_bind (run_size hk), addr_add]
  rfl

/-- The place of an array's element, through the array's address. -/
theorem o_indexAddrA {t e : TypeId} {x y : Operand} {b off len k : Nat} {ik : IntKind} {i : Int} (hu : P.underlying t = some (.array len e)) (hk : szE P e = some k)
    (hx : ev n ρ x = .pointer (some ⟨b, off, none⟩)) (hy : ev n ρ y = .int ik i) (h0 : 0 ≤ i) (h1 : i < len) :
    OpV P n ρ A ⟨dst, .indexAddr t x y, ty, pos, after, gd⟩ (.pointer (some ⟨b, off + i.toNat * k, none⟩)) := opv_of fun w => by
  simp only [execOp, hx, hy, Instr.indexAt, asIntOf]
  rw [run_bind (a := .pointer (some ⟨b, off + i.toNat * k, none⟩)) (w' := w)]
  · rfl
  rw [run_bind (w' := w) (a := (ik, i)) rfl, run_bind (run_und hu)]
  simp only []
  rw [run_bind (w' := w) (a := (⟨b, off, none⟩ : Addr)) rfl, run_bind (w' := w) (a := (some ⟨b, off, none⟩, len, e)) rfl]
  simp only []
  rw [run_bind (run_und hu)]
  simp only [h0, h1, and_self, if_true, run_bind (run_size hk), addr_add]
  rfl

section
variable {t e : TypeId} {x y : Operand} {b off len cap k : Nat} {ik : IntKind} {i : Int} {j : Nat}
theorem o_indexAddrN (hu : P.underlying t = some (.slice e)) (hk : szE P e = some k) (hx : ev n ρ x = .slice (some ⟨b, off, none⟩) len cap) (hy : ev n ρ y = .int ik ((j : Nat) : Int)) (h1 : j < len) :
    OpV P n ρ A ⟨dst, .indexAddr t x y, ty, pos, after, gd⟩ (.pointer (some ⟨b, off + j * k, none⟩)) := o_indexAddr hu hk hx hy (by omega) (by omega)
theorem o_indexAddr1 (hu : P.underlying t = some (.slice e)) (hk : szE P e = some 1) (hx : ev n ρ x = .slice (some ⟨b, off, none⟩) len cap) (hy : ev n ρ y = .int ik i) (h0 : 0 ≤ i) (h1 : i < len) :
    OpV P n ρ A ⟨dst, .indexAddr t x y, ty, pos, after, gd⟩ (.pointer (some ⟨b, off + i.toNat, none⟩)) := by
  have := o_indexAddr (A := A) (dst := dst) (ty := ty) (pos := pos) (after := after) (gd := gd) hu hk hx hy h0 h1
  rwa [Nat.mul_one] at this
theorem o_indexAddrN1 (hu : P.underlying t = some (.slice e)) (hk : szE P e = some 1) (hx : ev n ρ x = .slice (some ⟨b, off, none⟩) len cap) (hy : ev n ρ y = .int ik ((j : Nat) : Int)) (h1 : j < len) :
    OpV P n ρ A ⟨dst, .indexAddr t x y, ty, pos, after, gd⟩ (.pointer (some ⟨b, off + j, none⟩)) := o_indexAddr1 hu hk hx hy (by omega) (by omega)
theorem o_indexAddrAN (hu : P.underlying t = some (.array len e)) (hk : szE P e = some k) (hx : ev n ρ x = .pointer (some ⟨b, off, none⟩)) (hy : ev n ρ y = .int ik ((j : Nat) : Int)) (h1 : j < len) :
    OpV P n ρ A ⟨dst, .indexAddr t x y, ty, pos, after, gd⟩ (.pointer (some ⟨b, off + j * k, none⟩)) := o_indexAddrA hu hk hx hy (by omega) (by omega)
theorem o_indexAddrA1 (hu : P.underlying t = some (.array len e)) (hk : szE P e = some 1) (hx : ev n ρ x = .pointer (some ⟨b, off, none⟩)) (hy : ev n ρ y = .int ik i) (h0 : 0 ≤ i) (h1 : i < len) :
    OpV P n ρ A ⟨dst, .indexAddr t x y, ty, pos, after, gd⟩ (.pointer (some ⟨b, off + i.toNat, none⟩)) := by
  have := o_indexAddrA (A := A) (dst := dst) (ty := ty) (pos := pos) (after := after) (gd := gd) hu hk hx hy h0 h1
  rwa [Nat.mul_one] at this
theorem o_indexAddrAN1 (hu : P.underlying t = some (.array len e)) (hk : szE P e = some 1) (hx : ev n ρ x = .pointer (some ⟨b, off, none⟩)) (hy : ev n ρ y = .int ik ((j : Nat) : Int)) (h1 : j < len) :
    OpV P n ρ A ⟨dst, .indexAddr t x y, ty, pos, after, gd⟩ (.pointer (some ⟨b, off + j, none⟩)) := o_indexAddrA1 hu hk hx hy (by omega) (by omega)
end

/-- An element of an array by value. -/
theorem o_index1 {t e : TypeId} {x y : Operand} {len : Nat} {cs : List Value} {ik : IntKind} {i : Int} {v : Value} (hu : P.underlying t = some (.array len e)) (hk : szE P e = some 1) (hp : plainE P e = true)
    (hx : ev n ρ x = .agg cs.toArray) (hy : ev n ρ y = .int ik i) (h0 : 0 ≤ i) (h1 : i < len) (hv : cs[i.toNat]? = some v) :
    OpV P n ρ A ⟨dst, .index t x y, ty, pos, after, gd⟩ v := opv_of fun w => by
  simp only [execOp, hx, hy, Instr.index, asIntOf]
  rw [run_bind (a := v) (w' := w)]
  · rfl
  rw [run_bind (w' := w) (a := (ik, i)) rfl, run_bind (run_und hu)]
  simp only [h0, h1, and_self, if_true, run_bind (run_size hk), part]
  rw [run_bind (run_isAgg_f hp)]
  simp [hv, pure]

/-- A character of a string. -/
theorem o_indexS {t : TypeId} {x y : Operand} {s : ByteArray} {ik : IntKind} {i : Int} {c : UInt8} (hu : P.underlying t = some .string)
    (hx : ev n ρ x = .string s) (hy : ev n ρ y = .int ik i) (h0 : 0 ≤ i) (hv : s[i.toNat]? = some c) :
    OpV P n ρ A ⟨dst, .index t x y, ty, pos, after, gd⟩ (.int .u8 c.toNat) := opv_of fun w => by
  simp only [execOp, hx, hy, Instr.index, asIntOf]
  rw [run_bind (a := .int .u8 c.toNat) (w' := w)]
  · rfl
  rw [run_bind (w' := w) (a := (ik, i)) rfl, run_bind (run_und hu)]
  simp [h0, hv, pure]

/-- A field of a struct by value. -/
theorem o_field1 {t : TypeId} {x : Operand} {i : Nat} {fs : Array Field} {f : Field} {cs : List Value} {v : Value} (hu : P.underlying t = some (.struct fs)) (hf : fs[i]? = some f) (hp : plainE P f.type = true)
    (hx : ev n ρ x = .agg cs.toArray) (hv : cs[f.offset]? = some v) : OpV P n ρ A ⟨dst, .field t x i, ty, pos, after, gd⟩ v := opv_of fun w => by
  simp only [execOp, hx, Instr.field]
  rw [run_bind (a := v) (w' := w)]
  · rfl
  rw [run_bind (run_und hu)]
  simp only [hf, asAgg]
  rw [run_bind (w' := w) (a := cs.toArray) rfl]
  simp only [part]
  rw [run_bind (run_isAgg_f hp)]
  simp [hv, pure]
theorem o_fieldN {t : TypeId} {x : Operand} {i : Nat} {fs : Array Field} {f : Field} {k : Nat} {cs vs : List Value} (hu : P.underlying t = some (.struct fs)) (hf : fs[i]? = some f) (hp : aggE P f.type = true) (hk : szE P f.type = some k)
    (hx : ev n ρ x = .agg cs.toArray) (hv : (cs.drop f.offset).take k = vs) : OpV P n ρ A ⟨dst, .field t x i, ty, pos, after, gd⟩ (.agg vs.toArray) := opv_of fun w => by
  simp only [execOp, hx, Instr.field]
  rw [run_bind (a := .agg vs.toArray) (w' := w)]
  · rfl
  rw [run_bind (run_und hu)]
  simp only [hf, asAgg]
  rw [run_bind (w' := w) (a := cs.toArray) rfl]
  simp only [part]
  rw [run_bind (run_isAgg_t hp)]
  simp only [if_true]
  rw [run_bind (run_size hk)]
  simp [← hv, pure, List.extract_eq_take_drop]
end
end Go.Vl
