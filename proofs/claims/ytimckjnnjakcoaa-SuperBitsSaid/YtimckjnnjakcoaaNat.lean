/- Numbers that are no less than 0: operations on them, and an array's equality; over the calculus of XCore. It names no program. Conditions: none. -/
import Derived.Test.YtimckjnnjakcoaaSl
set_option linter.unusedVariables false
set_option linter.unusedSimpArgs false
namespace Go.Vl
open Go

theorem wrap_u8 (a : Nat) : IntKind.u8.wrap (a : Int) = ((a % 256 : Nat) : Int) := by
  simp [IntKind.wrap, IntKind.bits, IntKind.signed]; try omega
theorem wrap_u16 (a : Nat) : IntKind.u16.wrap (a : Int) = ((a % 65536 : Nat) : Int) := by
  simp [IntKind.wrap, IntKind.bits, IntKind.signed]; try omega
theorem wrap_u32 (a : Nat) : IntKind.u32.wrap (a : Int) = ((a % 4294967296 : Nat) : Int) := by
  simp [IntKind.wrap, IntKind.bits, IntKind.signed]; try omega
theorem wrap_u64 (a : Nat) : IntKind.u64.wrap (a : Int) = ((a % 18446744073709551616 : Nat) : Int) := by
  simp [IntKind.wrap, IntKind.bits, IntKind.signed]; try omega

section
variable {P : Program} {n : Nat} {ρ : Env} {A : SP} {dst : Option Tmp} {ty : TypeId} {pos : String} {after : Array Edge} {gd : Option (Nat × Bool)}

theorem OpV.cast {o : Oper} {v u : Value} (h : OpV P n ρ A o v) (e : v = u) : OpV P n ρ A o u := e ▸ h

theorem o_conv8 {s t : TypeId} {d : TypeDesc} {x : Operand} {k : IntKind} {a : Nat} (hs : P.underlying s = some d) (ht : P.underlying t = some (.int .u8)) (hx : ev n ρ x = .int k (a : Nat)) :
    OpV P n ρ A ⟨dst, .convert s t x, ty, pos, after, gd⟩ (.int .u8 ((a % 256 : Nat) : Int)) := (o_conv hs ht hx).cast (by rw [wrap_u8])
theorem o_conv16 {s t : TypeId} {d : TypeDesc} {x : Operand} {k : IntKind} {a : Nat} (hs : P.underlying s = some d) (ht : P.underlying t = some (.int .u16)) (hx : ev n ρ x = .int k (a : Nat)) :
    OpV P n ρ A ⟨dst, .convert s t x, ty, pos, after, gd⟩ (.int .u16 ((a % 65536 : Nat) : Int)) := (o_conv hs ht hx).cast (by rw [wrap_u16])
theorem o_conv32 {s t : TypeId} {d : TypeDesc} {x : Operand} {k : IntKind} {a : Nat} (hs : P.underlying s = some d) (ht : P.underlying t = some (.int .u32)) (hx : ev n ρ x = .int k (a : Nat)) :
    OpV P n ρ A ⟨dst, .convert s t x, ty, pos, after, gd⟩ (.int .u32 ((a % 4294967296 : Nat) : Int)) := (o_conv hs ht hx).cast (by rw [wrap_u32])
theorem o_conv64 {s t : TypeId} {d : TypeDesc} {x : Operand} {k : IntKind} {a : Nat} (hs : P.underlying s = some d) (ht : P.underlying t = some (.int .u64)) (hx : ev n ρ x = .int k (a : Nat)) :
    OpV P n ρ A ⟨dst, .convert s t x, ty, pos, after, gd⟩ (.int .u64 ((a % 18446744073709551616 : Nat) : Int)) := (o_conv hs ht hx).cast (by rw [wrap_u64])
/-- A conversion that turns nothing. -/
theorem o_convI {s t : TypeId} {d : TypeDesc} {x : Operand} {k k' : IntKind} {a : Int} (hs : P.underlying s = some d) (ht : P.underlying t = some (.int k')) (hx : ev n ρ x = .int k a) (h : k'.wrap a = a) :
    OpV P n ρ A ⟨dst, .convert s t x, ty, pos, after, gd⟩ (.int k' a) := (o_conv hs ht hx).cast (by rw [h])

theorem o_shrN {t t' : TypeId} {x y : Operand} {k k' : IntKind} {a b : Nat} {c : Int} (hx : ev n ρ x = .int k (a : Nat)) (hy : ev n ρ y = .int k' c) (hc : c = (b : Nat)) (hb : b ≤ k.bits) :
    OpV P n ρ A ⟨dst, .binOp .shr t x y t', ty, pos, after, gd⟩ (.int k ((a / 2 ^ b : Nat) : Int)) := (o_shr hx hy (by omega)).cast (by
  subst hc
  rw [Int.toNat_natCast, Nat.min_eq_left hb, Int.fdiv_eq_ediv_of_nonneg _ (by exact Int.pow_nonneg (by decide))]
  simp)

theorem bv_of (k : IntKind) (a : Nat) (h : a < 2 ^ k.bits) : (BitVec.ofInt k.bits (a : Int)).toNat = a := by
  rw [BitVec.toNat_ofInt]
  have : ((a : Int) % ((2 ^ k.bits : Nat) : Int)) = ((a % 2 ^ k.bits : Nat) : Int) := by simp
  rw [this, Int.toNat_natCast, Nat.mod_eq_of_lt h]

theorem wrap_fit (k : IntKind) (hk : k.signed = false) (a : Nat) (h : a < 2 ^ k.bits) : k.wrap (a : Int) = a := by
  cases k <;> simp [IntKind.signed] at hk
  · rw [wrap_u8, Nat.mod_eq_of_lt (by simpa [IntKind.bits] using h)]
  · rw [wrap_u16, Nat.mod_eq_of_lt (by simpa [IntKind.bits] using h)]
  · rw [wrap_u32, Nat.mod_eq_of_lt (by simpa [IntKind.bits] using h)]
  · rw [wrap_u64, Nat.mod_eq_of_lt (by simpa [IntKind.bits] using h)]

theorem o_orN {t t' : TypeId} {x y : Operand} {k : IntKind} {a b : Nat} (hk : k.signed = false) (hx : ev n ρ x = .int k (a : Nat)) (hy : ev n ρ y = .int k (b : Nat)) (ha : a < 2 ^ k.bits) (hb : b < 2 ^ k.bits) :
    OpV P n ρ A ⟨dst, .binOp .or t x y t', ty, pos, after, gd⟩ (.int k ((a ||| b : Nat) : Int)) := (o_or hx hy).cast (by
  rw [BitVec.toNat_or, bv_of k a ha, bv_of k b hb, wrap_fit k hk _ (Nat.or_lt_two_pow ha hb)])
theorem o_andN {t t' : TypeId} {x y : Operand} {k : IntKind} {a b : Nat} (hk : k.signed = false) (hx : ev n ρ x = .int k (a : Nat)) (hy : ev n ρ y = .int k (b : Nat)) (ha : a < 2 ^ k.bits) (hb : b < 2 ^ k.bits) :
    OpV P n ρ A ⟨dst, .binOp .and t x y t', ty, pos, after, gd⟩ (.int k ((a &&& b : Nat) : Int)) := (o_and hx hy).cast (by
  rw [BitVec.toNat_and, bv_of k a ha, bv_of k b hb, wrap_fit k hk _ (Nat.and_lt_two_pow _ hb)])
theorem o_xorN {t t' : TypeId} {x y : Operand} {k : IntKind} {a b : Nat} (hk : k.signed = false) (hx : ev n ρ x = .int k (a : Nat)) (hy : ev n ρ y = .int k (b : Nat)) (ha : a < 2 ^ k.bits) (hb : b < 2 ^ k.bits) :
    OpV P n ρ A ⟨dst, .binOp .xor t x y t', ty, pos, after, gd⟩ (.int k ((a ^^^ b : Nat) : Int)) := (o_xor hx hy).cast (by
  rw [BitVec.toNat_xor, bv_of k a ha, bv_of k b hb, wrap_fit k hk _ (Nat.xor_lt_two_pow ha hb)])

/-- x << b in 64 bits, where nothing is lost. -/
theorem o_shl64 {t t' : TypeId} {x y : Operand} {k' : IntKind} {a b : Nat} {c : Int} (hx : ev n ρ x = .int .u64 (a : Nat)) (hy : ev n ρ y = .int k' c) (hc : c = (b : Nat)) (hb : b ≤ 64) (ha : a * 2 ^ b < 18446744073709551616) :
    OpV P n ρ A ⟨dst, .binOp .shl t x y t', ty, pos, after, gd⟩ (.int .u64 ((a * 2 ^ b : Nat) : Int)) := (o_shl hx hy (by omega)).cast (by
  subst hc
  rw [Int.toNat_natCast, Nat.min_eq_left (show b ≤ IntKind.u64.bits from hb)]
  have : (a : Int) * 2 ^ b = ((a * 2 ^ b : Nat) : Int) := by simp
  rw [this, wrap_u64, Nat.mod_eq_of_lt ha])
/-- x << b in 64 bits, whatever is lost. -/
theorem o_shl64m {t t' : TypeId} {x y : Operand} {k' : IntKind} {a b : Nat} {c : Int} (hx : ev n ρ x = .int .u64 (a : Nat)) (hy : ev n ρ y = .int k' c) (hc : c = (b : Nat)) (hb : b ≤ 64) :
    OpV P n ρ A ⟨dst, .binOp .shl t x y t', ty, pos, after, gd⟩ (.int .u64 ((a * 2 ^ b % 18446744073709551616 : Nat) : Int)) := (o_shl hx hy (by omega)).cast (by
  subst hc
  rw [Int.toNat_natCast, Nat.min_eq_left (show b ≤ IntKind.u64.bits from hb)]
  have : (a : Int) * 2 ^ b = ((a * 2 ^ b : Nat) : Int) := by simp
  rw [this, wrap_u64])

theorem wrap_mod (k : IntKind) (hk : k.signed = false) (a : Nat) : k.wrap (a : Int) = ((a % 2 ^ k.bits : Nat) : Int) := by
  cases k <;> simp [IntKind.signed] at hk
  · exact wrap_u8 a
  · exact wrap_u16 a
  · exact wrap_u32 a
  · exact wrap_u64 a
theorem o_shlm {t t' : TypeId} {x y : Operand} {k k' : IntKind} {a b : Nat} {c : Int} (hk : k.signed = false) (hx : ev n ρ x = .int k (a : Nat)) (hy : ev n ρ y = .int k' c) (hc : c = (b : Nat)) (hb : b ≤ k.bits) :
    OpV P n ρ A ⟨dst, .binOp .shl t x y t', ty, pos, after, gd⟩ (.int k ((a * 2 ^ b % 2 ^ k.bits : Nat) : Int)) := (o_shl hx hy (by omega)).cast (by
  subst hc
  rw [Int.toNat_natCast, Nat.min_eq_left hb]
  have : (a : Int) * 2 ^ b = ((a * 2 ^ b : Nat) : Int) := by simp
  rw [this, wrap_mod k hk])

theorem o_addN {t t' : TypeId} {x y : Operand} {k : IntKind} {a b : Nat} (hk : k.signed = false) (hx : ev n ρ x = .int k (a : Nat)) (hy : ev n ρ y = .int k (b : Nat)) (h : a + b < 2 ^ k.bits) :
    OpV P n ρ A ⟨dst, .binOp .add t x y t', ty, pos, after, gd⟩ (.int k ((a + b : Nat) : Int)) := (o_add hx hy).cast (by
  have : (a : Int) + b = ((a + b : Nat) : Int) := by simp
  rw [this, wrap_fit k hk _ h])
theorem o_mulN {t t' : TypeId} {x y : Operand} {k : IntKind} {a b : Nat} {c : Int} (hk : k.signed = false) (hx : ev n ρ x = .int k (a : Nat)) (hy : ev n ρ y = .int k c) (hc : c = (b : Nat)) (h : a * b < 2 ^ k.bits) :
    OpV P n ρ A ⟨dst, .binOp .mul t x y t', ty, pos, after, gd⟩ (.int k ((a * b : Nat) : Int)) := (o_mul hx hy).cast (by
  subst hc
  have : (a : Int) * b = ((a * b : Nat) : Int) := by simp
  rw [this, wrap_fit k hk _ h])

theorem o_min {x y : Operand} {t t' : TypeId} {k : IntKind} {a b : Int} (hx : ev n ρ x = .int k a) (hy : ev n ρ y = .int k b) :
    OpV P n ρ A ⟨dst, .call { callee := .builtin .min, args := #[x, y], argTypes := #[t, t'] }, ty, pos, after, gd⟩ (.int k (min a b)) := opv_of fun w => by
  simp only [execOp, resolve, List.map_toArray, List.map_cons, List.map_nil, hx, hy]
  rw [run_bind (w' := w) (a := ⟨.builtin .min #[t, t'] ty _, #[.int k a, .int k b]⟩) (by rfl)]
  simp only [invoke, builtin]
  rw [run_bind (w' := w) (a := .int k (min a b))]
  · rfl
  have : min a b = if b < a then b else a := by split <;> omega
  rw [this]
  simp [Builtin.min_, Builtin.min2, pure]

/-! ### Arrays that are held against each other -/

theorem run_all {P : Program} {w : World} {α : Type} (f : α → (Option Bool × Unit) → Sem (ForInStep (Option Bool × Unit))) (c : α → Bool) : ∀ (l : List α),
    (∀ i ∈ l, (f i (none, ())).run P w = .ok (if c i then .yield (none, ()) else .done (some false, ())) w) →
    (forIn l (none, ()) f : Sem (Option Bool × Unit)).run P w = .ok (if l.all c then (none, ()) else (some false, ())) w
  | [], _ => by simp [pure]
  | i :: l, h => by
    rw [List.forIn_cons, run_bind (h i (by simp))]
    cases hc : c i with
    | false => simp [hc, pure]
    | true =>
      simp only [hc, if_true, List.all_cons, Bool.true_and]
      exact run_all f c l fun j hj => h j (by simp [hj])

theorem eqarr_run {P : Program} {t e : TypeId} {len : Nat} {k : IntKind} {w : World} (hu : P.underlying t = some (.array len e)) (hk : szE P e = some 1) (he : P.underlying e = some (.int k)) (hp : plainE P e = true) (xs ys : List Int) (hx : xs.length = len) (hy : ys.length = len) :
    (Op.equal t (.agg (xs.map (Value.int k)).toArray) (.agg (ys.map (Value.int k)).toArray)).run P w = .ok (decide (xs = ys)) w := by
  show (Op.equalIn (9999 + 1) t _ _).run P w = _
  rw [Op.equalIn, run_bind (run_und hu)]
  simp only []
  rw [run_bind (run_size hk)]
  simp only [Nat.mul_one]
  have heq : ∀ (d : Nat) (a b : Int), (Op.equalIn (d + 1) e (.int k a) (.int k b)).run P w = .ok (a == b) w := fun d a b => by
    rw [Op.equalIn, run_bind (run_und he)]; simp [pure]
  have hpart : ∀ (zs : List Int) (i : Nat) (h : i < zs.length), (part e (zs.map (Value.int k)).toArray i).run P w = .ok (.int k zs[i]) w := fun zs i h => by
    unfold part
    rw [run_bind (run_isAgg_f hp)]
    simp [h, pure]
  simp only [Std.Legacy.Range.forIn_eq_forIn_range', Std.Legacy.Range.size]
  have hl : (len - 0 + 1 - 1) / 1 = len := by simp
  rw [hl]
  have hall := run_all (P := P) (w := w) (fun i __s => do
      let a ← part e (List.map (Value.int k) xs).toArray i
      let b ← part e (List.map (Value.int k) ys).toArray i
      let c ← Op.equalIn 9999 e a b
      if (!c) = true then pure (ForInStep.done (some false, ())) else pure (ForInStep.yield (none, ()))) (fun i => xs[i]? == ys[i]?) (List.range' 0 len) (fun i hi => by
    have hi' : i < len := by simp at hi; exact hi
    rw [run_bind (hpart xs i (by omega)), run_bind (hpart ys i (by omega)), run_bind (heq 9998 _ _)]
    have h1 : xs[i]? = some (xs[i]'(by omega)) := List.getElem?_eq_getElem _
    have h2 : ys[i]? = some (ys[i]'(by omega)) := List.getElem?_eq_getElem _
    rw [h1, h2]
    by_cases hc : (xs[i]'(by omega)) = (ys[i]'(by omega)) <;> simp [hc, pure])
  rw [run_bind hall]
  by_cases hxy : xs = ys
  · subst hxy
    have : (List.range' 0 len).all (fun i => xs[i]? == xs[i]?) = true := by simp
    simp [this, pure]
  · have : (List.range' 0 len).all (fun i => xs[i]? == ys[i]?) = false := by
      cases hb : (List.range' 0 len).all (fun i => xs[i]? == ys[i]?) with
      | false => rfl
      | true =>
        exfalso; apply hxy
        apply List.ext_getElem?
        intro i
        by_cases hi : i < len
        · rw [List.all_eq_true] at hb
          have := hb i (by simp; exact hi)
          simpa using this
        · rw [List.getElem?_eq_none (by omega), List.getElem?_eq_none (by omega)]
    simp [this, hxy, pure]

theorem o_eqarr {t t' e : TypeId} {x y : Operand} {len : Nat} {k : IntKind} {xs ys : List Int} (hu : P.underlying t = some (.array len e)) (hk : szE P e = some 1) (he : P.underlying e = some (.int k)) (hp : plainE P e = true)
    (hge : P.eqGuardType P.depth t = false) (hx : ev n ρ x = .agg (xs.map (Value.int k)).toArray) (hy : ev n ρ y = .agg (ys.map (Value.int k)).toArray) (h1 : xs.length = len) (h2 : ys.length = len) :
    OpV P n ρ A ⟨dst, .binOp .eql t x y t', ty, pos, after, gd⟩ (.bool (decide (xs = ys))) := opv_of fun w => by
  simp only [execOp, hx, hy]
  rw [run_bind (w' := w) (a := .bool (decide (xs = ys)))]
  · rfl
  rw [run_bind (w' := w) (a := ())]
  · show (do pure (Value.bool (← Op.equal t (.agg (xs.map (Value.int k)).toArray) (.agg (ys.map (Value.int k)).toArray))) : Sem Value).run P w = _
    rw [run_bind (eqarr_run hu hk he hp xs ys h1 h2)]; rfl
  · simp [eqGuard, hge, program, bind, Sem.bind, Sem.run, pure]
theorem o_nearr {t t' e : TypeId} {x y : Operand} {len : Nat} {k : IntKind} {xs ys : List Int} (hu : P.underlying t = some (.array len e)) (hk : szE P e = some 1) (he : P.underlying e = some (.int k)) (hp : plainE P e = true)
    (hge : P.eqGuardType P.depth t = false) (hx : ev n ρ x = .agg (xs.map (Value.int k)).toArray) (hy : ev n ρ y = .agg (ys.map (Value.int k)).toArray) (h1 : xs.length = len) (h2 : ys.length = len) :
    OpV P n ρ A ⟨dst, .binOp .neq t x y t', ty, pos, after, gd⟩ (.bool (!decide (xs = ys))) := opv_of fun w => by
  simp only [execOp, hx, hy]
  rw [run_bind (w' := w) (a := .bool (!decide (xs = ys)))]
  · rfl
  rw [run_bind (w' := w) (a := ())]
  · show (do pure (Value.bool (!(← Op.equal t (.agg (xs.map (Value.int k)).toArray) (.agg (ys.map (Value.int k)).toArray)))) : Sem Value).run P w = _
    rw [run_bind (eqarr_run hu hk he hp xs ys h1 h2)]; rfl
  · simp [eqGuard, hge, program, bind, Sem.bind, Sem.run, pure]
end
end Go.Vl
