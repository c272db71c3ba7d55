/- What the row rests on, part 3: a calculus of assertions, walks of functions over it, and plain laws. Conditions: none. -/
import Derived.Deep.QuietTactic
import Derived.BigQuiet
import Derived.WalkKit
import Derived.Test.YtimckjnnjakcoaaProg
import Derived.OrdersHeld
import Derived.Laws.BytesArg
import Derived.RangeFuncRecord
import Derived.TacticsIn
import Derived.Deep.Slices
import Derived.OpenShut
import Derived.ChangeArms
import Derived.SizedLaws
import Derived.ChangeSame
import Derived.Test.YtimckjnnjakcoaaRows
import Derived.Test.YtimckjnnjakcoaaMg2
set_option linter.unusedVariables false
set_option linter.unusedSimpArgs false
namespace Go.Vl
open Go Go.Proofs
/-! ### Structs of ints that are held against each other -/
def intF (P : Program) (f : Field) : Bool := f.name != "_" && plainE P f.type && (match P.underlying f.type with | some (.int _) => true | _ => false)
/-- A struct whose fields are ints, one a cell. -/
def flatI (P : Program) (fs : Array Field) (n : Nat) : Bool := ((fs.toList.map fun f => f.offset) == List.range n) && fs.toList.all (intF P)
theorem range_eq {n : Nat} {xs ys : List Value} {l m : List Int} (hl : l.length = n) (hm : m.length = n) : ((List.range n).all fun i => l[i]? == m[i]?) = decide (l = m) := by
  by_cases e : l = m
  · subst e; simp
  · rw [decide_eq_false e]
    cases hb : (List.range n).all fun i => l[i]? == m[i]? with
    | false => rfl
    | true =>
      exfalso; apply e
      apply List.ext_getElem?
      intro i
      by_cases hi : i < n
      · rw [List.all_eq_true] at hb
        have := hb i (by simp; exact hi)
        simpa using this
      · rw [List.getElem?_eq_none (by omega), List.getElem?_eq_none (by omega)]
theorem eqst_run {P : Program} {t : TypeId} {fs : Array Field} {w : World} {n : Nat} (hu : P.underlying t = some (.struct fs)) (hst : P.stoodInHeld t = false) (hf : flatI P fs n = true) (l m : List Int) (hl : l.length = n) (hm : m.length = n) :
    (Op.equal t (.agg (ints l).toArray) (.agg (ints m).toArray)).run P w = .ok (decide (l = m)) w := by
  show (Op.equalIn (9999 + 1) t _ _).run P w = _
  unfold flatI at hf
  rw [Bool.and_eq_true, beq_iff_eq] at hf
  obtain ⟨ho, hall⟩ := hf
  have hlt : ∀ f ∈ fs.toList, f.offset < n := fun f hf => by
    have : f.offset ∈ fs.toList.map (fun f => f.offset) := List.mem_map_of_mem hf
    rw [ho] at this; simpa using this
  rw [Op.equalIn, run_bind (run_und hu)]
  simp only []
  rw [run_bind (w' := w) (a := P) (by rfl), if_neg (by rw [hst]; decide)]
  have hpart : ∀ (f : Field), f ∈ fs.toList → ∀ (zs : List Int), zs.length = n → (part f.type (ints zs).toArray f.offset).run P w = .ok (.int .i64 (zs[f.offset]?.getD 0)) w := fun f hf zs hz => by
    have h := hlt f hf
    have hp : plainE P f.type = true := by have := List.all_eq_true.1 hall f hf; simp [intF] at this; exact this.1.2
    unfold part
    rw [run_bind (run_isAgg_f hp)]
    have h' : f.offset < zs.length := by omega
    simp [ints, i64, h', pure]
  have heq : ∀ (f : Field), f ∈ fs.toList → ∀ (a b : Int), (Op.equalIn 9999 f.type (.int .i64 a) (.int .i64 b)).run P w = .ok (a == b) w := fun f hf a b => by
    have := List.all_eq_true.1 hall f hf
    simp only [intF, Bool.and_eq_true] at this
    obtain ⟨_, h2⟩ := this
    show (Op.equalIn (9998 + 1) f.type (.int .i64 a) (.int .i64 b)).run P w = _
    cases hq : P.underlying f.type with
    | none => simp [hq] at h2
    | some d =>
      rw [hq] at h2
      cases d <;> simp at h2
      rw [Op.equalIn, run_bind (run_und hq)]; simp [pure]
  have hname : ∀ f ∈ fs.toList, f.name ≠ "_" := fun f hf => by have := List.all_eq_true.1 hall f hf; simp [intF] at this; exact this.1.1
  rw [← Array.forIn_toList]
  have hall' := run_all (P := P) (w := w) (fun (f : Field) __s => 
      if f.name ≠ "_" then do
        let a ← part f.type (ints l).toArray f.offset
        let b ← part f.type (ints m).toArray f.offset
        let c ← Op.equalIn 9999 f.type a b
        if (!c) = true then pure (ForInStep.done (some false, ())) else pure (ForInStep.yield (none, ()))
      else pure (ForInStep.yield (none, ()))) (fun f => l[f.offset]? == m[f.offset]?) fs.toList (fun f hf => by
    rw [if_pos (hname f hf), run_bind (hpart f hf l hl), run_bind (hpart f hf m hm), run_bind (heq f hf _ _)]
    have h := hlt f hf
    have h1 : l[f.offset]? = some (l[f.offset]'(by omega)) := List.getElem?_eq_getElem _
    have h2 : m[f.offset]? = some (m[f.offset]'(by omega)) := List.getElem?_eq_getElem _
    rw [h1, h2]
    by_cases hc : (l[f.offset]'(by omega)) = (m[f.offset]'(by omega)) <;> simp [hc, pure])
  rw [run_bind hall']
  have e : (fs.toList.all fun f => l[f.offset]? == m[f.offset]?) = decide (l = m) := by
    rw [← range_eq (xs := []) (ys := []) hl hm, ← ho, List.all_map]; rfl
  rw [e]
  by_cases h : l = m <;> simp [h, pure]
section
variable {P : Program} {n : Nat} {ρ : Env} {A : SP} {dst : Option Tmp} {ty : TypeId} {pos : String} {after : Array Edge} {gd : Option (Nat × Bool)}
theorem o_eqst {t t' : TypeId} {x y : Operand} {k : Nat} {fs : Array Field} {l m : List Int} (hu : P.underlying t = some (.struct fs)) (hst : P.stoodInHeld t = false) (hf : flatI P fs k = true) (hge : P.eqGuardType P.depth t = false)
    (hx : ev n ρ x = .agg (ints l).toArray) (hy : ev n ρ y = .agg (ints m).toArray) (h1 : l.length = k) (h2 : m.length = k) :
    OpV P n ρ A ⟨dst, .binOp .eql t x y t', ty, pos, after, gd⟩ (.bool (decide (l = m))) := opv_of fun w => by
  simp only [execOp, hx, hy]
  rw [run_bind (w' := w) (a := .bool (decide (l = m)))]
  · rfl
  rw [run_bind (w' := w) (a := ())]
  · show (do pure (Value.bool (← Op.equal t (.agg (ints l).toArray) (.agg (ints m).toArray))) : Sem Value).run P w = _
    rw [run_bind (eqst_run hu hst hf l m h1 h2)]; rfl
  · simp [eqGuard, hge, program, bind, Sem.bind, Sem.run, pure]
theorem o_nest {t t' : TypeId} {x y : Operand} {k : Nat} {fs : Array Field} {l m : List Int} (hu : P.underlying t = some (.struct fs)) (hst : P.stoodInHeld t = false) (hf : flatI P fs k = true) (hge : P.eqGuardType P.depth t = false)
    (hx : ev n ρ x = .agg (ints l).toArray) (hy : ev n ρ y = .agg (ints m).toArray) (h1 : l.length = k) (h2 : m.length = k) :
    OpV P n ρ A ⟨dst, .binOp .neq t x y t', ty, pos, after, gd⟩ (.bool (!decide (l = m))) := opv_of fun w => by
  simp only [execOp, hx, hy]
  rw [run_bind (w' := w) (a := .bool (!decide (l = m)))]
  · rfl
  rw [run_bind (w' := w) (a := ())]
  · show (do pure (Value.bool (!(← Op.equal t (.agg (ints l).toArray) (.agg (ints m).toArray)))) : Sem Value).run P w = _
    rw [run_bind (eqst_run hu hst hf l m h1 h2)]; rfl
  · simp [eqGuard, hge, program, bind, Sem.bind, Sem.run, pure]
/-- Strings. -/
theorem o_eqstr {t t' : TypeId} {x y : Operand} {a b : ByteArray} (hx : ev n ρ x = .string a) (hy : ev n ρ y = .string b) :
    OpV P n ρ A ⟨dst, .binOp .eql t x y t', ty, pos, after, gd⟩ (.bool (a.toList == b.toList)) :=
  opv_of fun w => by
  simp only [execOp, hx, hy]
  rw [run_bind (w' := w) (a := .bool (a.toList == b.toList))]
  · rfl
  rw [run_bind (w' := w) (a := ())]
  · simp [binOp, Op.stringOp, pure]
  · rfl
/-! ### A slice as an array -/
theorem o_s2a {t e : TypeId} {x : Operand} {k m c : Nat} {a : Option Addr} (hu : P.underlying t = some (.array k e)) (hx : ev n ρ x = .slice a m c) (hk : k ≤ m) :
    OpV P n ρ A ⟨dst, .sliceToArrayPointer t x, ty, pos, after, gd⟩ (.pointer a) := opv_of fun w => by
  simp only [execOp, hx]
  rw [run_bind (w' := w) (a := .pointer a)]
  · rfl
  unfold Instr.arrayAt
  rw [run_bind (run_und hu)]
  simp [Nat.not_lt.2 hk, pure]
/-! ### 32 bits -/
theorem o_compl32 {t : TypeId} {x : Operand} {a : Nat} (hx : ev n ρ x = .int .u32 (a : Nat)) (ha : a < 4294967296) : OpV P n ρ A ⟨dst, .unOp .xor t x, ty, pos, after, gd⟩ (.int .u32 ((a ^^^ 4294967295 : Nat) : Int)) := (o_compl hx).cast (by
  have h1 : (BitVec.ofInt IntKind.u32.bits (if IntKind.u32.signed then -1 else IntKind.u32.max)).toNat = 4294967295 := by decide
  rw [BitVec.toNat_xor, h1, bv_of .u32 a (by simpa [IntKind.bits] using ha), Nat.xor_comm, wrap_fit .u32 rfl _ (Nat.xor_lt_two_pow (by simpa [IntKind.bits] using ha) (by decide))])
theorem o_neg32 {t : TypeId} {x : Operand} {a : Nat} (hx : ev n ρ x = .int .u32 (a : Nat)) (ha : a < 2) : OpV P n ρ A ⟨dst, .unOp .neg t x, ty, pos, after, gd⟩ (.int .u32 ((a * 4294967295 : Nat) : Int)) := (o_neg hx).cast (by
  have : a = 0 ∨ a = 1 := by omega
  rcases this with rfl | rfl <;> rfl)
/-! ### Bytes that may be a string's -/
theorem o_cpyS {t e : TypeId} {x : Operand} {b m c : Nat} {l : List Value} {E : TypeId} {A' : SP} (hu : P.underlying t = some (.slice e)) (he : P.underlying e = some (.int .u8)) (hx : ev n ρ x = .slice (some ⟨b, 0, none⟩) m c)
    (hd : Upd A b (cl l E) (.cells l.toArray E (l.length, l.length + 1)) A') : OpX P n ρ A ⟨dst, .convert t t x, ty, pos, after, gd⟩ (fun v B => v = .slice (some ⟨b, 0, none⟩) m c ∧ B = A') := fun g w hs => by
  have h := hd.has g w hs
  refine ⟨_, w.freeze ⟨b, l.length, none⟩ 1, A', ?_, hd.sat hs (fun k => ?_) rfl rfl rfl, rfl, rfl⟩
  · simp only [execOp, hx, convert]
    rw [run_bind (a := .slice (some ⟨b, 0, none⟩) m c) (w' := w.freeze ⟨b, l.length, none⟩ 1)]
    · rfl
    rw [run_bind (run_und hu), run_bind (run_und hu)]
    simp only []
    rw [run_bind (run_und he)]
    have hsh : w.shape? b = some (E, l.length) := by unfold World.shape?; rw [h]; simp [cl]
    simp [markStringish, shape, freeze, Sem.run, bind, Sem.bind, hsh, pure]
  · show (World.freeze w ⟨b, l.length, none⟩ 1).heap[k]? = _
    unfold World.freeze
    rw [if_neg (by decide)]
    show (w.heap.modify b _)[k]? = _
    rw [Array.getElem?_modify]
    by_cases hk : b = k
    · subst hk; rw [if_pos rfl, if_pos rfl, h]; simp [cl]
    · rw [if_neg hk, if_neg (Ne.symm hk)]
end
theorem rs_mk {R : SP} {b : Nat} {l : List Value} {E : TypeId} {fz : Nat × Nat} : Rs (R * pt b (.cells l.toArray E fz)) (some ⟨b, 0, none⟩) l := fun g w hs i v hv => by
  have h := has_here g w hs
  refine ⟨b, 0, rfl, ?_⟩
  simp only [World.cell?, h, Nat.zero_add, List.getElem?_toArray]
  simpa using hv
/-- A string of bytes. -/
def sob (xs : List Nat) : ByteArray := ⟨(xs.map fun n => UInt8.ofNat n).toArray⟩
theorem o_b2s {P : Program} {n : Nat} {ρ : Env} {A : SP} {dst : Option Tmp} {ty : TypeId} {pos : String} {after : Array Edge} {gd : Option (Nat × Bool)} {s t e : TypeId} {x : Operand} {a : Option Addr} {m c : Nat} {xs : List Nat} (hs : P.underlying s = some (.slice e)) (he : P.underlying e = some (.int .u8)) (ht : P.underlying t = some .string)
    (hx : ev n ρ x = .slice a m c) (hr : Rs A a (bys xs)) (hm : xs.length = m) (h0 : 0 < m) : OpV P n ρ A ⟨dst, .convert s t x, ty, pos, after, gd⟩ (.string (sob xs)) := fun g w hsat => by
  have h00 : (bys xs)[0]? = some ((bys xs)[0]'(by rw [bys_length]; omega)) := List.getElem?_eq_getElem _
  obtain ⟨b, o, rfl, _⟩ := hr g w hsat 0 _ h00
  simp only [execOp, hx]
  rw [run_bind (w' := w) (a := .string (sob xs))]
  · rfl
  rw [run_convert_bytes_arg w s e hs he b o m c (xs.map fun (q : Nat) => (q : Int)) (by simp [hm]) (fun i hi => ?_) t ht]
  · simp [strOfNums, sob, List.map_map, Function.comp_def]
  · have hi' : i < xs.length := by omega
    have h1 := bys_at hi'
    obtain ⟨b', o', e', hc⟩ := hr g w hsat i _ h1
    simp only [Option.some.injEq, Addr.mk.injEq, and_true] at e'
    obtain ⟨rfl, rfl⟩ := e'
    rw [hc]
    simp [hi']
end Go.Vl

set_option linter.unusedVariables false
set_option linter.unusedSimpArgs false
namespace Go.Vl
open Go Go.Proofs
/-! ### The sum's law -/
def crs (r : Nat) : Nat := (r / 2) ^^^ (2197175160 * (r % 2))
def crk : Nat → Nat → Nat
  | 0, r => r
  | k + 1, r => crs (crk k r)
def crL (r : Nat) : List Nat → Nat
  | [] => r
  | x :: xs => crL (crk 8 (r ^^^ x)) xs
def crc (s : Nat) (xs : List Nat) : Nat := crL (s ^^^ 4294967295) xs ^^^ 4294967295
theorem x32 {a b : Nat} (ha : a < 4294967296) (hb : b < 4294967296) : a ^^^ b < 4294967296 := Nat.xor_lt_two_pow (n := 32) ha hb
theorem crs_lt {r : Nat} (h : r < 4294967296) : crs r < 4294967296 := x32 (by omega) (by omega)
theorem crk_lt {r : Nat} (h : r < 4294967296) : ∀ k, crk k r < 4294967296
  | 0 => h
  | k + 1 => crs_lt (crk_lt h k)
theorem crL_lt : ∀ {xs : List Nat} {r : Nat}, r < 4294967296 → (∀ x ∈ xs, x < 256) → crL r xs < 4294967296
  | [], _, h, _ => h
  | x :: xs, r, h, hb => crL_lt (xs := xs) (crk_lt (x32 h (by have := hb x (by simp); omega)) 8) fun y hy => hb y (by simp [hy])
theorem crL_snoc : ∀ {xs : List Nat} {r x : Nat}, crL r (xs ++ [x]) = crk 8 (crL r xs ^^^ x)
  | [], _, _ => rfl
  | y :: ys, r, x => by show crL _ (ys ++ [x]) = _; rw [crL_snoc]; rfl
theorem crL_take {xs : List Nat} {r i : Nat} (h : i < xs.length) : crL r (xs.take (i + 1)) = crk 8 (crL r (xs.take i) ^^^ xs[i]) := by
  rw [List.take_succ_eq_append_getElem h, crL_snoc]
theorem crc_lt {s : Nat} {xs : List Nat} (h : s < 4294967296) (hb : ∀ x ∈ xs, x < 256) : crc s xs < 4294967296 := x32 (crL_lt (x32 h (by decide)) hb) (by decide)
theorem tk_b {xs : List Nat} {i : Nat} (hb : ∀ x ∈ xs, x < 256) : ∀ x ∈ xs.take i, x < 256 := fun x hx => hb x (List.mem_of_mem_take hx)
theorem and1 (r : Nat) : r &&& 1 = r % 2 := Nat.and_one_is_mod r
theorem crs_and (r : Nat) : (r / 2) ^^^ (2197175160 &&& (r % 2 * 4294967295)) = crs r := by
  unfold crs
  have : r % 2 = 0 ∨ r % 2 = 1 := by omega
  rcases this with h | h <;> rw [h] <;> rfl
theorem crk_and (k c : Nat) : (crk k c / 2 ^ 1) ^^^ (2197175160 &&& (crk k c % 2 * 4294967295)) = crk (k + 1) c := crs_and _
theorem crk_0 (c : Nat) : c = crk 0 c := rfl
theorem crL_0 (c : Nat) (xs : List Nat) : c = crL c (xs.take 0) := by rw [List.take_zero]; rfl
theorem crc_of (s : Nat) (xs : List Nat) {m : Nat} (h : xs.length = m) : crL (s ^^^ 4294967295) (xs.take m) ^^^ 4294967295 = crc s xs := by rw [← h, List.take_length]; rfl
theorem xor_half (a b : Nat) : (a ^^^ b) / 2 = a / 2 ^^^ b / 2 := by
  have := Nat.shiftRight_xor_distrib (a := a) (b := b) (i := 1)
  simpa [Nat.shiftRight_eq_div_pow] using this
theorem xor_low (a b : Nat) : (a ^^^ b) % 2 = (a % 2 + b % 2) % 2 := by
  rw [← Nat.and_one_is_mod, Nat.and_xor_distrib_right, Nat.and_one_is_mod, Nat.and_one_is_mod]
  have h1 : a % 2 = 0 ∨ a % 2 = 1 := by omega
  have h2 : b % 2 = 0 ∨ b % 2 = 1 := by omega
  rcases h1 with h1 | h1 <;> rcases h2 with h2 | h2 <;> rw [h1, h2] <;> rfl
/-- The document's register: the sum's, and what of the byte is not yet in it. -/
def rfk (k c x : Nat) : Nat := crk k c ^^^ x / 2 ^ k
theorem rfk_zero {c x : Nat} : rfk 0 (c ^^^ x) x = c := by
  unfold rfk crk; rw [Nat.pow_zero, Nat.div_one, Nat.xor_assoc, Nat.xor_self, Nat.xor_zero]
theorem rfk_eight {c x : Nat} (h : x < 256) : rfk 8 c x = crk 8 c := by
  unfold rfk; rw [Nat.div_eq_of_lt h, Nat.xor_zero]
theorem rfk_step {k c x : Nat} : rfk (k + 1) c x = if (x / 2 ^ k % 2 ≠ rfk k c x % 2) then (rfk k c x / 2) ^^^ 2197175160 else rfk k c x / 2 := by
  have h1 : rfk k c x / 2 = crk k c / 2 ^^^ x / 2 ^ (k + 1) := by unfold rfk; rw [xor_half, Nat.pow_succ, Nat.div_div_eq_div_mul]
  have h2 : rfk k c x % 2 = (crk k c % 2 + x / 2 ^ k % 2) % 2 := xor_low _ _
  have h3 : rfk (k + 1) c x = crs (crk k c) ^^^ x / 2 ^ (k + 1) := rfl
  rw [h1, h3]
  unfold crs
  by_cases h : crk k c % 2 = 1
  · rw [if_pos (by omega), h]; ac_rfl
  · have h0 : crk k c % 2 = 0 := by omega
    rw [if_neg (by omega), h0]; simp
theorem rfk_t {k c x : Nat} (h : ((x / 2 ^ k % 2 : Nat) : Int) ≠ ((rfk k c x % 2 : Nat) : Int)) : rfk k c x / 2 ^^^ 2197175160 = rfk (k + 1) c x := by
  rw [rfk_step, if_pos (by omega)]
theorem rfk_f {k c x : Nat} (h : ((x / 2 ^ k % 2 : Nat) : Int) = ((rfk k c x % 2 : Nat) : Int)) : rfk k c x / 2 = rfk (k + 1) c x := by
  rw [rfk_step, if_neg (by omega)]
section
variable {P : Program} {n : Nat} {ρ : Env} {A : SP} {dst : Option Tmp} {ty : TypeId} {pos : String} {after : Array Edge} {gd : Option (Nat × Bool)}
theorem o_quoU {t t' : TypeId} {x y : Operand} {k : IntKind} {a b : Nat} (hk : k.signed = false) (hx : ev n ρ x = .int k (a : Nat)) (hy : ev n ρ y = .int k (b : Nat)) (hb : 0 < b) (ha : a < 2 ^ k.bits) : OpV P n ρ A ⟨dst, .binOp .quo t x y t', ty, pos, after, gd⟩ (.int k ((a / b : Nat) : Int)) := (o_quo hx hy (by omega)).cast (by
  rw [Int.tdiv_eq_ediv_of_nonneg (by omega), show (a : Int) / (b : Int) = ((a / b : Nat) : Int) by simp, wrap_fit k hk _ (Nat.lt_of_le_of_lt (Nat.div_le_self _ _) ha)])
theorem o_remU {t t' : TypeId} {x y : Operand} {k : IntKind} {a b : Nat} (hx : ev n ρ x = .int k (a : Nat)) (hy : ev n ρ y = .int k (b : Nat)) (hb : 0 < b) : OpV P n ρ A ⟨dst, .binOp .rem t x y t', ty, pos, after, gd⟩ (.int k ((a % b : Nat) : Int)) := (o_rem hx hy (by omega)).cast (by
  rw [Int.tmod_eq_emod_of_nonneg (by omega), show (a : Int) % (b : Int) = ((a % b : Nat) : Int) by simp])
end
theorem rfk_lt {k c x : Nat} (hc : c < 4294967296) (hx : x < 256) : rfk k c x < 4294967296 := by
  refine x32 (crk_lt hc k) ?_
  have := Nat.div_le_self x (2 ^ k); omega
attribute [local irreducible] crk crL crc Sl pt ro
theorem More_c {A : SP} {a : Option Addr} {m c s : Nat} {xs : List Nat} (hr : Rs A a (bys xs) := by repeat (first | assumption | with_reducible exact rs_sl | with_reducible exact rs_pt0 | exact rs_none | apply Rs.left)) (hm : xs.length = m := by first | assumption | rfl) (hb : ∀ x ∈ xs, x < 256 := by assumption) (hs : s < 4294967296 := by omega) (hl : m ≤ 1099511627776 := by omega) :
    Fn Try.prog 150 #[.int .u32 (s : Nat), .slice a m c] (A) (fun r B => r = .int .u32 ((crc s xs : Nat) : Int) ∧ A = B) := by
  refine fn_enterW (args := [.int .u32 (s : Nat), .slice a m c]) Try.func150 rfl Try.ntmps150 (by simp) ?_
  refine tc_seq ?_
  refine tc_reg ?_
  refine tla ?_
  refine tl_nil ?_
  refine q_then_n ?_
  refine tc_seq ?_
  refine tc_reg ?_
  refine tlm ?_
  refine tl_v rfl (o_compl32 rfl hs) ?_
  refine tla ?_
  refine tl_nil ?_
  refine q_then_n ?_
  refine tc_seq ?_
  refine tc_seq ?_
  refine tc_reg ?_
  refine tlm ?_
  refine tl_v rfl (o_len Try.underlying28 rfl) ?_
  refine tlm ?_
  refine tl_nil ?_
  refine q_then_n ?_
  refine tc_block ?_
  refine tc_loop (fun kk ρ BB => ∃ (i : Nat), (i ≤ m) ∧ kk = m - i ∧ ρ 5 = .int .u32 ((crL (s ^^^ 4294967295) (xs.take i) : Nat) : Int) ∧ ρ 13 = .int .i64 (i : Nat) ∧ ρ 11 = .slice a m c ∧ ρ 12 = .int .i64 (m : Nat) ∧ BB = A) (m := m - (0)) ?_ ?_
  · exact ⟨0, by omega, rfl, congrArg (fun z : Nat => Value.int .u32 (z : Int)) (crL_0 _ _), rfl, rfl, rfl, rfl⟩
  · intro k ρ B hI
    obtain ⟨i, hp0, hkk1, hE5, hE13, hE11, hE12, hBA⟩ := hI
    obtain rfl := hBA.symm
    refine tc_env (d := 5) hE5 ?_
    refine tc_env (d := 13) hE13 ?_
    refine tc_env (d := 11) hE11 ?_
    refine tc_env (d := 12) hE12 ?_
    clear hE5 hE13 hE11 hE12
    refine tc_seq ?_
    refine tc_reg ?_
    refine tl_v rfl (o_lss rfl rfl) ?_
    refine tl_nil ?_
    refine q_then_n ?_
    refine tc_seq ?_
    refine tc_cond rfl (fun h => ?_) (fun h => ?_)
    · have hi : i < xs.length := by simp at h; omega
      have hx256 := hb _ (List.getElem_mem hi)
      have hC := crL_lt (x32 hs (by decide : 4294967295 < 4294967296)) (tk_b (i := i) hb)
      have hR := x32 hC (show xs[i] < 4294967296 by omega)
      refine tc_skip ?_
      refine q_then_n ?_
      refine tc_seq ?_
      refine tc_block ?_
      refine tc_seq ?_
      refine tc_reg ?_
      refine tl_v rfl (o_ixP1 Try.underlying28 sz5 rfl rfl (by first | omega | (simp only [bys_length, ints_length, wds_length, bos_length, List.length_append, List.length_take, List.length_drop, List.length_singleton]; omega)) (by repeat (first | exact nn_some | with_reducible exact nn_sl (by decide) | exact nn_rs (by assumption) (fun _ => by first | omega | (simp only [bys_length, ints_length, wds_length, bos_length, List.length_append, List.length_take, List.length_drop, List.length_singleton]; omega)) | apply Nn.left))) ?_
      refine tl_v rfl (o_ldP p5 rfl hr (bys_at (by assumption))) ?_
      refine tla ?_
      refine tl_nil ?_
      refine q_then_n ?_
      refine tc_seq ?_
      refine tc_reg ?_
      refine tlm ?_
      refine tlm ?_
      refine tl_v rfl (by first | exact o_conv32 Try.underlying5 Try.underlying114 rfl | exact o_conv Try.underlying5 Try.underlying114 rfl) ?_
      refine tl_env (d := 19) (v := .int .u32 ((xs[i] : Nat) : Int)) (congrArg (fun z : Nat => Value.int .u32 (z : Int)) (Nat.mod_eq_of_lt (by omega))) ?_
      refine tl_v rfl (o_xorN rfl rfl rfl (by show _ < 4294967296; assumption) (by show _ < 4294967296; omega)) ?_
      refine tla ?_
      refine tl_nil ?_
      refine q_then_n ?_
      refine tc_seq ?_
      refine tc_reg ?_
      refine tlm ?_
      refine tl_nil ?_
      refine q_then_n ?_
      refine tc_block ?_
      refine tc_loop (fun kk ρ BB => ∃ (k : Nat), (k ≤ 8) ∧ kk = 8 - k ∧ ρ 5 = .int .u32 ((crk k (crL (s ^^^ 4294967295) (xs.take i) ^^^ xs[i]) : Nat) : Int) ∧ ρ 21 = .int .i64 (k : Nat) ∧ ρ 11 = .slice a m c ∧ ρ 12 = .int .i64 (m : Nat) ∧ ρ 13 = .int .i64 (i : Nat) ∧ BB = A) (m := 8 - (0)) ?_ ?_
      · exact ⟨0, by omega, rfl, congrArg (fun z : Nat => Value.int .u32 (z : Int)) (crk_0 _), rfl, rfl, rfl, rfl, rfl⟩
      · intro k ρ B hI
        obtain ⟨k, hp0, hkk2, hE5, hE21, hE11, hE12, hE13, hBA⟩ := hI
        obtain rfl := hBA.symm
        refine tc_env (d := 5) hE5 ?_
        refine tc_env (d := 21) hE21 ?_
        refine tc_env (d := 11) hE11 ?_
        refine tc_env (d := 12) hE12 ?_
        refine tc_env (d := 13) hE13 ?_
        clear hE5 hE21 hE11 hE12 hE13
        refine tc_seq ?_
        refine tc_reg ?_
        refine tl_v rfl (o_lss rfl rfl) ?_
        refine tl_nil ?_
        refine q_then_n ?_
        refine tc_seq ?_
        refine tc_cond rfl (fun h => ?_) (fun h => ?_)
        · have hk := crk_lt hR k
          have hk8 : k < 8 := by simp at h; omega
          refine tc_skip ?_
          refine q_then_n ?_
          refine tc_seq ?_
          refine tc_block ?_
          refine tc_seq ?_
          refine tc_reg ?_
          refine tlm ?_
          refine tl_v rfl ((o_andN (b := 1) rfl rfl rfl (by show _ < 4294967296; assumption) (by decide)).cast (by rw [and1])) ?_
          refine tla ?_
          refine tl_nil ?_
          refine q_then_n ?_
          refine tc_seq ?_
          refine tc_reg ?_
          refine tlm ?_
          refine tl_v rfl (o_shrN (b := 1) rfl rfl rfl (by decide)) ?_
          refine tla ?_
          refine tl_nil ?_
          refine q_then_n ?_
          refine tc_reg ?_
          refine tlm ?_
          refine tlm ?_
          refine tl_v rfl (o_neg32 rfl (by omega)) ?_
          refine tl_v rfl (o_andN (a := 2197175160) rfl rfl rfl (by decide) (by show _ < 4294967296; omega)) ?_
          refine tl_v rfl (o_xorN rfl rfl rfl (by show _ < 4294967296; omega) (by show _ < 4294967296; exact Nat.and_lt_two_pow (n := 32) _ (by show _ < 4294967296; omega))) ?_
          refine tla ?_
          refine tl_nil ?_
          refine q_block_n (q_then_n ?_)
          refine tc_reg ?_
          refine tl_v rfl (by first | exact o_addI rfl rfl (by omega) | exact o_add rfl rfl) ?_
          refine tlm ?_
          refine tl_nil ?_
          refine q_then_n ?_
          exact ⟨_, by omega, k + 1, by omega, rfl, congrArg (fun z : Nat => Value.int .u32 (z : Int)) (crk_and _ _), rfl, rfl, rfl, rfl, rfl⟩
        · obtain rfl : k = 8 := by simp at h; omega
          refine tc_exit ?_
          refine q_then_e (q_then_e (q_block_x (q_block_n (q_then_n ?_))))
          refine tc_reg ?_
          refine tl_v rfl (by first | exact o_addI rfl rfl (by omega) | exact o_add rfl rfl) ?_
          refine tlm ?_
          refine tl_nil ?_
          refine q_then_n ?_
          exact ⟨_, by omega, i + 1, by omega, rfl, congrArg (fun z : Nat => Value.int .u32 (z : Int)) (crL_take hi).symm, rfl, rfl, rfl, rfl⟩
    · obtain rfl : i = m := by simp at h; omega
      have hC2 := crL_lt (x32 hs (by decide : 4294967295 < 4294967296)) (tk_b (i := i) hb)
      refine tc_exit ?_
      refine q_then_e (q_then_e (q_block_x (q_then_n ?_)))
      refine tc_seq ?_
      refine tc_reg ?_
      refine tlm ?_
      refine tl_v rfl (o_compl32 rfl hC2) ?_
      refine tla ?_
      refine tl_nil ?_
      refine q_then_n ?_
      refine tc_ret ?_
      exact ⟨.int .u32 ((crc s xs : Nat) : Int), A, res1 rfl (congrArg (fun z : Nat => Value.int .u32 (z : Int)) (crc_of s xs hm)), fun _ _ h => h, rfl, rfl⟩
theorem MoreR_c {A : SP} {a : Option Addr} {m c s : Nat} {xs : List Nat} (hr : Rs A a (bys xs) := by repeat (first | assumption | with_reducible exact rs_sl | with_reducible exact rs_pt0 | exact rs_none | apply Rs.left)) (hm : xs.length = m := by first | assumption | rfl) (hb : ∀ x ∈ xs, x < 256 := by assumption) (hs : s < 4294967296 := by omega) (hl : m ≤ 1099511627776 := by omega) :
    Fn Try.prog 133 #[.int .u32 (s : Nat), .slice a m c] (A) (fun r B => r = .int .u32 ((crc s xs : Nat) : Int) ∧ A = B) := by
  refine fn_enterW (args := [.int .u32 (s : Nat), .slice a m c]) Try.func133 rfl Try.ntmps133 (by simp) ?_
  refine tc_seq ?_
  refine tc_reg ?_
  refine tla ?_
  refine tl_nil ?_
  refine q_then_n ?_
  refine tc_seq ?_
  refine tc_reg ?_
  refine tlm ?_
  refine tl_v rfl (by first | exact o_conv64 Try.underlying114 Try.underlying53 rfl | exact o_conv Try.underlying114 Try.underlying53 rfl) ?_
  refine tl_env (d := 11) (v := .int .u64 ((s : Nat) : Int)) (congrArg (fun z : Nat => Value.int .u64 (z : Int)) (Nat.mod_eq_of_lt (by omega))) ?_
  refine tl_v rfl (o_xorN (b := 4294967295) rfl rfl rfl (by show _ < 18446744073709551616; omega) (by decide)) ?_
  refine tla ?_
  refine tl_nil ?_
  refine q_then_n ?_
  refine tc_seq ?_
  refine tc_seq ?_
  refine tc_reg ?_
  refine tla ?_
  refine tl_nil ?_
  refine q_then_n ?_
  refine tc_block ?_
  refine tc_loop (fun kk ρ BB => ∃ (i : Nat), (i ≤ m) ∧ kk = m - i ∧ ρ 5 = .int .u64 ((crL (s ^^^ 4294967295) (xs.take i) : Nat) : Int) ∧ ρ 6 = .int .i64 (i : Nat) ∧ ρ 1 = .slice a m c ∧ BB = A) (m := m - (0)) ?_ ?_
  · exact ⟨0, by omega, rfl, congrArg (fun z : Nat => Value.int .u64 (z : Int)) (crL_0 _ _), rfl, rfl, rfl⟩
  · intro k ρ B hI
    obtain ⟨i, hp0, hkk1, hE5, hE6, hE1, hBA⟩ := hI
    obtain rfl := hBA.symm
    refine tc_env (d := 5) hE5 ?_
    refine tc_env (d := 6) hE6 ?_
    refine tc_env (d := 1) hE1 ?_
    clear hE5 hE6 hE1
    refine tc_seq ?_
    refine tc_seq ?_
    refine tc_reg ?_
    refine tlm ?_
    refine tlm ?_
    refine tl_v rfl (o_len Try.underlying28 rfl) ?_
    refine tl_v rfl (o_lss rfl rfl) ?_
    refine tl_nil ?_
    refine q_then_n ?_
    refine tc_cond rfl (fun h => ?_) (fun h => ?_)
    · have hi : i < xs.length := by simp at h; omega
      have hx256 := hb _ (List.getElem_mem hi)
      have hC := crL_lt (x32 hs (by decide : 4294967295 < 4294967296)) (tk_b (i := i) hb)
      have hR := x32 hC (show xs[i] < 4294967296 by omega)
      refine tc_skip ?_
      refine q_then_n ?_
      refine tc_seq ?_
      refine tc_block ?_
      refine tc_seq ?_
      refine tc_reg ?_
      refine tla ?_
      refine tl_nil ?_
      refine q_then_n ?_
      refine tc_block ?_
      refine tc_loop (fun kk ρ BB => ∃ (k : Nat), (k ≤ 8) ∧ kk = 8 - k ∧ ρ 5 = .int .u64 ((rfk k (crL (s ^^^ 4294967295) (xs.take i) ^^^ xs[i]) xs[i] : Nat) : Int) ∧ ρ 7 = .int .i64 (k : Nat) ∧ ρ 1 = .slice a m c ∧ ρ 6 = .int .i64 (i : Nat) ∧ BB = A) (m := 8 - (0)) ?_ ?_
      · exact ⟨0, by omega, rfl, congrArg (fun z : Nat => Value.int .u64 (z : Int)) rfk_zero.symm, rfl, rfl, rfl, rfl⟩
      · intro k ρ B hI
        obtain ⟨k, hp0, hkk2, hE5, hE7, hE1, hE6, hBA⟩ := hI
        obtain rfl := hBA.symm
        refine tc_env (d := 5) hE5 ?_
        refine tc_env (d := 7) hE7 ?_
        refine tc_env (d := 1) hE1 ?_
        refine tc_env (d := 6) hE6 ?_
        clear hE5 hE7 hE1 hE6
        refine tc_seq ?_
        refine tc_seq ?_
        refine tc_reg ?_
        refine tlm ?_
        refine tl_v rfl (o_lss rfl rfl) ?_
        refine tl_nil ?_
        refine q_then_n ?_
        refine tc_cond rfl (fun h => ?_) (fun h => ?_)
        · have hk8 : k < 8 := by simp at h; omega
          have hF := rfk_lt (k := k) hR hx256
          have hd := Nat.div_le_self xs[i] (2 ^ k)
          refine tc_skip ?_
          refine q_then_n ?_
          refine tc_seq ?_
          refine tc_block ?_
          refine tc_seq ?_
          refine tc_reg ?_
          refine tlm ?_
          refine tlm ?_
          refine tl_v rfl (o_ixP1 Try.underlying28 sz5 rfl rfl (by first | omega | (simp only [bys_length, ints_length, wds_length, bos_length, List.length_append, List.length_take, List.length_drop, List.length_singleton]; omega)) (by repeat (first | exact nn_some | with_reducible exact nn_sl (by decide) | exact nn_rs (by assumption) (fun _ => by first | omega | (simp only [bys_length, ints_length, wds_length, bos_length, List.length_append, List.length_take, List.length_drop, List.length_singleton]; omega)) | apply Nn.left))) ?_
          refine tl_v rfl (o_ldP p5 rfl hr (bys_at (by assumption))) ?_
          refine tlm ?_
          refine tl_v rfl (o_shrN (b := k) rfl rfl rfl (by show k ≤ 8; omega)) ?_
          refine tl_v rfl (by first | exact o_conv64 Try.underlying5 Try.underlying53 rfl | exact o_conv Try.underlying5 Try.underlying53 rfl) ?_
          refine tl_env (d := 29) (v := .int .u64 ((xs[i] / 2 ^ k : Nat) : Int)) (congrArg (fun z : Nat => Value.int .u64 (z : Int)) (Nat.mod_eq_of_lt (by omega))) ?_
          refine tl_v rfl (o_remU (b := 2) rfl rfl (by decide)) ?_
          refine tla ?_
          refine tl_nil ?_
          refine q_then_n ?_
          refine tc_seq ?_
          refine tc_reg ?_
          refine tlm ?_
          refine tlm ?_
          refine tl_v rfl (o_remU (b := 2) rfl rfl (by decide)) ?_
          refine tl_v rfl (o_nei rfl rfl) ?_
          refine tla ?_
          refine tl_nil ?_
          refine q_then_n ?_
          refine tc_seq ?_
          refine tc_reg ?_
          refine tlm ?_
          refine tl_v rfl (o_quoU (b := 2) rfl rfl rfl (by decide) (by show _ < 18446744073709551616; omega)) ?_
          refine tla ?_
          refine tl_nil ?_
          refine q_then_n ?_
          refine tc_seq ?_
          refine tc_reg ?_
          refine tlm ?_
          refine tl_nil ?_
          refine q_then_n ?_
          refine tc_cut (fun ρ BB => ρ 5 = .int .u64 ((rfk (k + 1) (crL (s ^^^ 4294967295) (xs.take i) ^^^ xs[i]) xs[i] : Nat) : Int) ∧ ρ 1 = .slice a m c ∧ ρ 6 = .int .i64 (i : Nat) ∧ ρ 7 = .int .i64 (k : Nat) ∧ BB = A) ?_ ?_
          · skip
            refine tc_cond rfl (fun h => ?_) (fun h => ?_)
            · try simp only [lv1, lv2, lv3, lv4, lv5, lv6, Bool.not_true, Bool.not_false] at h
              refine tc_reg ?_
              refine tlm ?_
              refine tl_v rfl (o_xorN (b := 2197175160) rfl rfl rfl (by show _ < 18446744073709551616; omega) (by decide)) ?_
              refine tla ?_
              refine tl_nil ?_
              exact ⟨by first | exact congrArg (fun z : Nat => Value.int .u64 (z : Int)) (rfk_t h) | exact congrArg (fun z : Nat => Value.int .u64 (z : Int)) (rfk_f (Classical.not_not.1 h)), rfl, rfl, rfl, rfl⟩
            · try simp only [lv1, lv2, lv3, lv4, lv5, lv6, Bool.not_true, Bool.not_false] at h
              refine tc_skip ?_
              exact ⟨by first | exact congrArg (fun z : Nat => Value.int .u64 (z : Int)) (rfk_t h) | exact congrArg (fun z : Nat => Value.int .u64 (z : Int)) (rfk_f (Classical.not_not.1 h)), rfl, rfl, rfl, rfl⟩
          · intro ρ B hI
            obtain ⟨hE5, hE1, hE6, hE7, hBA⟩ := hI
            obtain rfl := hBA.symm
            refine q_block_n (q_then_n ?_)
            refine tc_env (d := 5) hE5 ?_
            refine tc_env (d := 1) hE1 ?_
            refine tc_env (d := 6) hE6 ?_
            refine tc_env (d := 7) hE7 ?_
            clear hE5 hE1 hE6 hE7
            refine tc_reg ?_
            refine tlm ?_
            refine tl_v rfl (by first | exact o_addI rfl rfl (by omega) | exact o_add rfl rfl) ?_
            refine tla ?_
            refine tl_nil ?_
            refine q_then_n ?_
            exact ⟨_, by omega, k + 1, by omega, rfl, rfl, rfl, rfl, rfl, rfl⟩
        · obtain rfl : k = 8 := by simp at h; omega
          refine tc_exit ?_
          refine q_then_e (q_then_e (q_block_x (q_block_n (q_then_n ?_))))
          refine tc_reg ?_
          refine tlm ?_
          refine tl_v rfl (by first | exact o_addI rfl rfl (by omega) | exact o_add rfl rfl) ?_
          refine tla ?_
          refine tl_nil ?_
          refine q_then_n ?_
          exact ⟨_, by omega, i + 1, by omega, rfl, congrArg (fun z : Nat => Value.int .u64 (z : Int)) ((rfk_eight hx256).trans (crL_take hi).symm), rfl, rfl, rfl⟩
    · obtain rfl : i = m := by simp at h; omega
      have hC2 := crL_lt (x32 hs (by decide : 4294967295 < 4294967296)) (tk_b (i := i) hb)
      refine tc_exit ?_
      refine q_then_e (q_then_e (q_block_x (q_then_n ?_)))
      refine tc_seq ?_
      refine tc_reg ?_
      refine tlm ?_
      refine tl_v rfl (o_xorN (b := 4294967295) rfl rfl rfl (by show _ < 18446744073709551616; omega) (by decide)) ?_
      refine tl_v rfl ((o_conv32 Try.underlying53 Try.underlying114 rfl).cast (congrArg (fun z : Nat => Value.int .u32 (z : Int)) (Nat.mod_eq_of_lt (x32 (b := 4294967295) hC2 (by decide))))) ?_
      refine tla ?_
      refine tl_nil ?_
      refine q_then_n ?_
      refine tc_ret ?_
      exact ⟨.int .u32 ((crc s xs : Nat) : Int), A, res1 rfl (congrArg (fun z : Nat => Value.int .u32 (z : Int)) (crc_of s xs hm)), fun _ _ h => h, rfl, rfl⟩
end Go.Vl

set_option linter.unusedVariables false
set_option linter.unusedSimpArgs false
namespace Go.Vl
open Go Go.Proofs
/-! ### Sums of parts -/
def crcs (ls : List (List Nat)) : Nat := ls.foldl crc 0
theorem crcs_take {ls : List (List Nat)} {i : Nat} (h : i < ls.length) : crcs (ls.take (i + 1)) = crc (crcs (ls.take i)) ls[i] := by
  unfold crcs; rw [List.take_succ_eq_append_getElem h, List.foldl_append]; rfl
theorem crcs_lt {ls : List (List Nat)} (hb : ∀ l ∈ ls, ∀ x ∈ l, x < 256) : crcs ls < 4294967296 := by
  unfold crcs
  have : ∀ (ls : List (List Nat)) (s : Nat), (∀ l ∈ ls, ∀ x ∈ l, x < 256) → s < 4294967296 → ls.foldl crc s < 4294967296 := by
    intro ls
    induction ls with
    | nil => intro s _ h; exact h
    | cons l ls ih => intro s hb h; exact ih _ (fun l hl => hb l (by simp [hl])) (crc_lt h (hb l (by simp)))
  exact this ls 0 hb (by decide)
attribute [local irreducible] crk crL crc Sl pt ro
theorem Sum_c {A : SP} {a : Option Addr} {m c : Nat} {ls : List (List Nat)} (hr : RdRows A a ls) (hm : ls.length = m := by first | assumption | rfl) (hb : ∀ l ∈ ls, ∀ x ∈ l, x < 256) (hl : ∀ l ∈ ls, l.length ≤ 1099511627776) (hm2 : m ≤ 1099511627776 := by omega) :
    Fn Try.prog 132 #[.slice a m c] (A) (fun r B => r = .int .u32 ((crcs ls : Nat) : Int) ∧ A = B) := by
  refine fn_enterW (args := [.slice a m c]) Try.func132 rfl Try.ntmps132 (by simp) ?_
  obtain ⟨vs, hvl, hra, hrows⟩ := hr
  have hra := rs_rd hra
  refine tc_seq ?_
  refine tc_reg ?_
  refine tla ?_
  refine tl_nil ?_
  refine q_then_n ?_
  refine tc_seq ?_
  refine tc_reg ?_
  refine tla ?_
  refine tl_nil ?_
  refine q_then_n ?_
  refine tc_seq ?_
  refine tc_seq ?_
  refine tc_reg ?_
  refine tlm ?_
  refine tl_v rfl (o_len Try.underlying33 rfl) ?_
  refine tlm ?_
  refine tl_nil ?_
  refine q_then_n ?_
  refine tc_block ?_
  refine tc_loop (fun kk ρ BB => ∃ (i : Nat), (i ≤ m) ∧ kk = m - i ∧ ρ 3 = .int .u32 ((crcs (ls.take i) : Nat) : Int) ∧ ρ 8 = .int .i64 (i : Nat) ∧ ρ 6 = .slice a m c ∧ ρ 7 = .int .i64 (m : Nat) ∧ BB = A) (m := m - (0)) ?_ ?_
  · exact ⟨0, by omega, rfl, rfl, rfl, rfl, rfl, rfl⟩
  · intro k ρ B hI
    obtain ⟨i, hp0, hkk1, hE3, hE8, hE6, hE7, hBA⟩ := hI
    obtain rfl := hBA.symm
    refine tc_env (d := 3) hE3 ?_
    refine tc_env (d := 8) hE8 ?_
    refine tc_env (d := 6) hE6 ?_
    refine tc_env (d := 7) hE7 ?_
    clear hE3 hE8 hE6 hE7
    refine tc_seq ?_
    refine tc_reg ?_
    refine tl_v rfl (o_lss rfl rfl) ?_
    refine tl_nil ?_
    refine q_then_n ?_
    refine tc_seq ?_
    refine tc_cond rfl (fun h => ?_) (fun h => ?_)
    · have hi : i < ls.length := by simp at h; omega
      obtain ⟨ai, ci, hvi, hri⟩ := hrows i hi
      have hri := rs_rd hri
      have hbi := hb _ (List.getElem_mem hi)
      have hli := hl _ (List.getElem_mem hi)
      have hs32 := crcs_lt (ls := ls.take i) fun l hl => hb l (List.mem_of_mem_take hl)
      refine tc_skip ?_
      refine q_then_n ?_
      refine tc_seq ?_
      refine tc_block ?_
      refine tc_seq ?_
      refine tc_reg ?_
      refine tl_v rfl (o_ixP1 Try.underlying33 sz28 rfl rfl (by omega) (nn_rs hra (by omega))) ?_
      refine tl_v rfl (o_ldP p28 rfl hra hvi) ?_
      refine tla ?_
      refine tl_nil ?_
      refine q_then_n ?_
      refine tc_reg ?_
      refine tlm ?_
      refine tlm ?_
      refine tl_c rfl (o_call bd150 rfl (More_c (hr := hri) (hb := hbi) (hl := hli) (hs := hs32))) ?_
      rintro _ _ ⟨rfl, rfl⟩
      refine tla ?_
      refine tl_nil ?_
      refine q_block_n (q_then_n ?_)
      refine tc_reg ?_
      refine tl_v rfl (by first | exact o_addI rfl rfl (by omega) | exact o_add rfl rfl) ?_
      refine tlm ?_
      refine tl_nil ?_
      refine q_then_n ?_
      exact ⟨_, by omega, i + 1, by omega, rfl, congrArg (fun z : Nat => Value.int .u32 (z : Int)) (crcs_take hi).symm, rfl, rfl, rfl, rfl⟩
    · try simp only [lv1, lv2, lv3, lv4, lv5, lv6, Bool.not_true, Bool.not_false] at h
      refine tc_exit ?_
      refine q_then_e (q_then_e (q_block_x (q_then_n ?_)))
      refine tc_seq ?_
      refine tc_reg ?_
      refine tlm ?_
      refine tla ?_
      refine tl_nil ?_
      refine q_then_n ?_
      refine tc_ret ?_
      obtain rfl : i = m := by omega
      exact ⟨.int .u32 ((crcs ls : Nat) : Int), A, res1 rfl (congrArg (fun z : Nat => Value.int .u32 (z : Int)) (congrArg crcs (List.take_of_length_le (by omega)))), fun _ _ h => h, rfl, rfl⟩
theorem SumR_c {A : SP} {a : Option Addr} {m c : Nat} {xs : List Nat} (hr : Rs A a (bys xs) := by repeat (first | assumption | with_reducible exact rs_sl | with_reducible exact rs_pt0 | exact rs_none | apply Rs.left)) (hm : xs.length = m := by first | assumption | rfl) (hb : ∀ x ∈ xs, x < 256 := by assumption) (hl : m ≤ 1099511627776 := by omega) :
    Fn Try.prog 85 #[.slice a m c] (A) (fun r B => r = .int .u32 ((crc 0 xs : Nat) : Int) ∧ A = B) := by
  refine fn_enterW (args := [.slice a m c]) Try.func85 rfl Try.ntmps85 (by simp) ?_
  refine tc_seq ?_
  refine tc_reg ?_
  refine tla ?_
  refine tl_nil ?_
  refine q_then_n ?_
  refine tc_seq ?_
  refine tc_reg ?_
  refine tlm ?_
  refine tl_c rfl (o_call bd133 rfl (MoreR_c (s := 0) (hr := hr))) ?_
  rintro _ _ ⟨rfl, rfl⟩
  refine tla ?_
  refine tl_nil ?_
  refine q_then_n ?_
  refine tc_ret ?_
  exact ⟨.int .u32 ((crc 0 xs : Nat) : Int), A, res1 rfl rfl, fun _ _ h => h, rfl, rfl⟩
theorem Little_c {A : SP} {v n : Nat} (hn : n ≤ 8 := by decide) :
    Fn Try.prog 74 #[.int .u64 (v : Nat), .int .i64 (n : Nat)] (A) (fun r B => ∃ a c, r = .slice a n c ∧ n ≤ c ∧ B = A * Sl 1 (.slice a n c) n (bys (le n v))) := by
  refine fn_enterW (args := [.int .u64 (v : Nat), .int .i64 (n : Nat)]) Try.func74 rfl Try.ntmps74 (by simp) ?_
  refine tc_seq ?_
  refine tc_reg ?_
  refine tla ?_
  refine tl_nil ?_
  refine q_then_n ?_
  refine tc_seq ?_
  refine tc_reg ?_
  refine tla ?_
  refine tl_nil ?_
  refine q_then_n ?_
  refine tc_seq ?_
  refine tc_seq ?_
  refine tc_reg ?_
  refine tla ?_
  refine tl_nil ?_
  refine q_then_n ?_
  refine tc_block ?_
  refine tc_pre (fun _ _ h => sl_nil (k := 1) h) ?_
  refine tc_loop (fun kk ρ BB => ∃ (i : Nat) (a5 : Option Addr) (c5 : Nat), (i ≤ n) ∧ kk = n - i ∧ ρ 5 = .slice a5 i c5 ∧ ρ 6 = .int .i64 (i : Nat) ∧ ρ 0 = .int .u64 (v : Nat) ∧ ρ 1 = .int .i64 (n : Nat) ∧ BB = A * Sl 1 (.slice a5 i c5) i (bys (le i v))) (m := n - (0)) ?_ ?_
  · exact ⟨0, none, 0, by omega, rfl, rfl, rfl, rfl, rfl, rfl⟩
  · intro k ρ B hI
    obtain ⟨i, a5, c5, hp0, hkk1, hE5, hE6, hE0, hE1, rfl⟩ := hI
    refine tc_env (d := 5) hE5 ?_
    refine tc_env (d := 6) hE6 ?_
    refine tc_env (d := 0) hE0 ?_
    refine tc_env (d := 1) hE1 ?_
    clear hE5 hE6 hE0 hE1
    refine tc_seq ?_
    refine tc_seq ?_
    refine tc_reg ?_
    refine tlm ?_
    refine tlm ?_
    refine tl_v rfl (o_lss rfl rfl) ?_
    refine tl_nil ?_
    refine q_then_n ?_
    refine tc_cond rfl (fun h => ?_) (fun h => ?_)
    · try simp only [lv1, lv2, lv3, lv4, lv5, lv6, Bool.not_true, Bool.not_false] at h
      refine tc_skip ?_
      refine q_then_n ?_
      refine tc_seq ?_
      refine tc_block ?_
      refine tc_reg ?_
      refine tlm ?_
      refine tlm ?_
      refine tlm ?_
      refine tl_v rfl (by first | exact o_mulI rfl rfl (by omega) | exact o_mul rfl rfl) ?_
      refine tl_env (d := 15) (v := .int .i64 ((8 * i : Nat) : Int)) (rfl) ?_
      refine tl_v rfl (o_shrN (b := 8 * i) rfl rfl rfl (by show 8 * i ≤ 64; omega)) ?_
      refine tl_v rfl (by first | exact o_conv8 Try.underlying53 Try.underlying5 rfl | exact o_conv Try.underlying53 Try.underlying5 rfl) ?_
      refine tl_env (d := 17) (v := .int .u8 ((v / 256 ^ i % 256 : Nat) : Int)) (congrArg (fun z : Nat => Value.int .u8 ((v / z % 256 : Nat) : Int)) (Nat.pow_mul 2 8 i)) ?_
      refine tl_x rfl (o_buildSlice1 Try.underlying28 sz5 z5 (by conv => lhs; whnf) rfl) ?_
      rintro _ _ ⟨b18, rfl, rfl⟩
      refine tl_x rfl (o_apB Try.underlying28 Try.underlying28 sz5 by5 z5 rfl (by decide) (by decide) rfl rfl rfl (by repeat (first | with_reducible exact ct_here | apply ct_left)) rfl (by first | exact bys_all _ | exact ints_all _ | exact wds_all _ | exact bos_all _ | rfl) (by first | omega | (simp only [bys_length, ints_length, wds_length, bos_length, List.length_append, List.length_take, List.length_drop, List.length_singleton]; omega)) (by first | exact bys_sn _ _ | exact ints_sn _ _ | exact wds_sn _ _ | exact bos_sn _ _ | exact (bys_append _ _).symm | rfl)) ?_
      rintro _ _ ⟨a19, c19, rfl, hc19, rfl⟩
      refine tla ?_
      refine tl_nil ?_
      refine q_block_n (q_then_n ?_)
      refine tc_reg ?_
      refine tlm ?_
      refine tl_v rfl (by first | exact o_addI rfl rfl (by omega) | exact o_add rfl rfl) ?_
      refine tla ?_
      refine tl_nil ?_
      refine q_then_n ?_
      exact ⟨_, by omega, i + 1, _, _, by omega, rfl, rfl, rfl, rfl, rfl, by rw [le_snoc]⟩
    · try simp only [lv1, lv2, lv3, lv4, lv5, lv6, Bool.not_true, Bool.not_false] at h
      refine tc_exit ?_
      refine q_then_e (q_then_e (q_block_x (q_then_n ?_)))
      refine tc_seq ?_
      refine tc_have (fun _ _ h => ct_cap (by repeat (first | with_reducible exact ct_here | apply ct_left)) h) fun hc5 => ?_
      refine tc_reg ?_
      refine tlm ?_
      refine tla ?_
      refine tl_nil ?_
      refine q_then_n ?_
      refine tc_ret ?_
      obtain rfl : i = n := by omega
      exact ⟨_, _, res1 rfl rfl, fun _ _ h => h, a5, c5, rfl, hc5, rfl⟩
end Go.Vl

set_option linter.unusedVariables false
set_option linter.unusedSimpArgs false
namespace Go.Vl
open Go Go.Proofs
def sbys (s : ByteArray) : List Nat := s.data.toList.map fun b => b.toNat
theorem sbys_len (s : ByteArray) : (sbys s).length = s.size := by unfold sbys; rw [List.length_map]; rfl
theorem sbys_at {s : ByteArray} {i : Nat} (h : i < s.size) : ∃ c : UInt8, s[i]? = some c ∧ (sbys s)[i]? = some c.toNat := by
  refine ⟨s[i], getElem?_pos s i h, ?_⟩
  unfold sbys
  rw [List.getElem?_map, List.getElem?_eq_getElem (by simpa using h)]
  simp; rfl
attribute [local irreducible] crk crL crc Sl pt ro
theorem Text_c {A : SP} {s : ByteArray} (hl : s.size ≤ 1099511627776 := by decide) :
    Fn Try.prog 84 #[.string s] (A) (fun r B => ∃ a c, r = .slice a (sbys s).length c ∧ (sbys s).length ≤ c ∧ B = A * Sl 1 (.slice a (sbys s).length c) (sbys s).length (bys (sbys s))) := by
  refine fn_enterW (args := [.string s]) Try.func84 rfl Try.ntmps84 (by simp) ?_
  have hxl := sbys_len s
  refine tc_seq ?_
  refine tc_reg ?_
  refine tla ?_
  refine tl_nil ?_
  refine q_then_n ?_
  refine tc_seq ?_
  refine tc_reg ?_
  refine tla ?_
  refine tl_nil ?_
  refine q_then_n ?_
  refine tc_seq ?_
  refine tc_seq ?_
  refine tc_reg ?_
  refine tla ?_
  refine tl_nil ?_
  refine q_then_n ?_
  refine tc_block ?_
  refine tc_pre (fun _ _ h => sl_nil (k := 1) h) ?_
  refine tc_loop (fun kk ρ BB => ∃ (i : Nat) (a5 : Option Addr) (c5 : Nat), (i ≤ s.size) ∧ kk = s.size - i ∧ ρ 3 = .slice a5 i c5 ∧ ρ 4 = .int .i64 (i : Nat) ∧ ρ 0 = .string s ∧ BB = A * Sl 1 (.slice a5 i c5) i (bys ((sbys s).take i))) (m := s.size - (0)) ?_ ?_
  · exact ⟨0, none, 0, by omega, rfl, rfl, rfl, rfl, rfl⟩
  · intro k ρ B hI
    obtain ⟨i, a5, c5, hp0, hkk1, hE3, hE4, hE0, rfl⟩ := hI
    refine tc_env (d := 3) hE3 ?_
    refine tc_env (d := 4) hE4 ?_
    refine tc_env (d := 0) hE0 ?_
    clear hE3 hE4 hE0
    refine tc_seq ?_
    refine tc_seq ?_
    refine tc_reg ?_
    refine tlm ?_
    refine tlm ?_
    refine tl_v rfl (o_lenS Try.underlying9 rfl) ?_
    refine tl_v rfl (o_lss rfl rfl) ?_
    refine tl_nil ?_
    refine q_then_n ?_
    refine tc_cond rfl (fun h => ?_) (fun h => ?_)
    · have hi : i < s.size := by simp at h; omega
      obtain ⟨cc, h1, h2⟩ := sbys_at hi
      refine tc_skip ?_
      refine q_then_n ?_
      refine tc_seq ?_
      refine tc_block ?_
      refine tc_reg ?_
      refine tlm ?_
      refine tlm ?_
      refine tlm ?_
      refine tl_v rfl (o_indexS Try.underlying9 rfl rfl (by omega) h1) ?_
      refine tl_env (d := 14) (v := .int .u8 ((cc.toNat : Nat) : Int)) (rfl) ?_
      refine tl_x rfl (o_buildSlice1 Try.underlying28 sz5 z5 (by conv => lhs; whnf) rfl) ?_
      rintro _ _ ⟨b15, rfl, rfl⟩
      refine tl_x rfl (o_apB Try.underlying28 Try.underlying28 sz5 by5 z5 rfl (by decide) (by decide) rfl rfl rfl (by repeat (first | with_reducible exact ct_here | apply ct_left)) rfl (by first | exact bys_all _ | exact ints_all _ | exact wds_all _ | exact bos_all _ | rfl) (by first | omega | (simp only [bys_length, ints_length, wds_length, bos_length, List.length_append, List.length_take, List.length_drop, List.length_singleton]; omega)) (by first | exact bys_sn _ _ | exact ints_sn _ _ | exact wds_sn _ _ | exact bos_sn _ _ | exact (bys_append _ _).symm | rfl)) ?_
      rintro _ _ ⟨a16, c16, rfl, hc16, rfl⟩
      refine tla ?_
      refine tl_nil ?_
      refine q_block_n (q_then_n ?_)
      refine tc_reg ?_
      refine tlm ?_
      refine tl_v rfl (by first | exact o_addI rfl rfl (by omega) | exact o_add rfl rfl) ?_
      refine tla ?_
      refine tl_nil ?_
      refine q_then_n ?_
      exact ⟨_, by omega, i + 1, _, _, by omega, rfl, rfl, rfl, rfl, by rw [List.take_add_one, h2]; rfl⟩
    · try simp only [lv1, lv2, lv3, lv4, lv5, lv6, Bool.not_true, Bool.not_false] at h
      refine tc_exit ?_
      refine q_then_e (q_then_e (q_block_x (q_then_n ?_)))
      refine tc_seq ?_
      refine tc_have (fun _ _ h => ct_cap (by repeat (first | with_reducible exact ct_here | apply ct_left)) h) fun hc5 => ?_
      obtain rfl : i = (sbys s).length := by omega
      rw [List.take_length]
      refine tc_reg ?_
      refine tlm ?_
      refine tla ?_
      refine tl_nil ?_
      refine q_then_n ?_
      refine tc_ret ?_
      exact ⟨_, _, res1 rfl rfl, fun _ _ h => h, a5, c5, rfl, hc5, rfl⟩
theorem Two_j {A : SP} {a1 a2 : Option Addr} {m1 m2 c1 c2 b : Nat} {xs ys : List Nat} {E : TypeId} (h1 : Rs A a1 (bys xs)) (h2 : Rs A a2 (bys ys)) (e1 : xs.length = m1) (e2 : ys.length = m2) (hl : m1 + m2 ≤ 17592186044416) :
    Fn Try.prog 36 #[.slice (some ⟨b, 0, none⟩) 2 2] (A * pt b (cl [.slice a1 m1 c1, .slice a2 m2 c2] E)) (fun r B => ∃ a c, r = .slice a (m1 + m2) c ∧ m1 + m2 ≤ c ∧ B = A * pt b (cl [.slice a1 m1 c1, .slice a2 m2 c2] E) * Sl 1 (.slice a (m1 + m2) c) (m1 + m2) (bys (xs ++ ys))) := by
  subst e1 e2
  refine fn_rs (xs := [.slice a1 xs.length c1, .slice a2 ys.length c2]) rs_pt0 fun hr => ?_
  refine fn_rs h1.left fun h1 => fn_rs h2.left fun h2 => ?_
  have key := JoinN_f (A * pt b (cl [.slice a1 xs.length c1, .slice a2 ys.length c2] E)) (some ⟨b, 0, none⟩) 2 2 [xs, ys] ⟨_, rfl, hr, fun i hi => by
    match i, hi with
    | 0, _ => exact ⟨a1, c1, rfl, h1⟩
    | 1, _ => exact ⟨a2, c2, rfl, h2⟩⟩ (by simp; omega) (by simp) rfl
  have e : ([xs, ys] : List (List Nat)).flatten = xs ++ ys := by simp
  rw [e] at key
  have e3 : (xs ++ ys).length = xs.length + ys.length := by simp
  rw [e3] at key
  exact fn_sl key
theorem Two_c {A : SP} {a1 a2 : Option Addr} {m1 m2 c1 c2 : Nat} {xs ys : List Nat} (h1 : Rs A a1 (bys xs) := by repeat (first | assumption | with_reducible exact rs_sl | with_reducible exact rs_pt0 | exact rs_none | apply Rs.left)) (h2 : Rs A a2 (bys ys) := by repeat (first | assumption | with_reducible exact rs_sl | with_reducible exact rs_pt0 | exact rs_none | apply Rs.left)) (e1 : xs.length = m1 := by first | assumption | rfl) (e2 : ys.length = m2 := by first | assumption | rfl) (hl : m1 + m2 ≤ 17592186044416 := by omega) :
    Fn Try.prog 73 #[.slice a1 m1 c1, .slice a2 m2 c2] (A) (fun r B => ∃ a c, r = .slice a (m1 + m2) c ∧ m1 + m2 ≤ c ∧ B = A * Sl 1 (.slice a (m1 + m2) c) (m1 + m2) (bys (xs ++ ys))) := by
  refine fn_enterW (args := [.slice a1 m1 c1, .slice a2 m2 c2]) Try.func73 rfl Try.ntmps73 (by simp) ?_
  refine tc_seq ?_
  refine tc_reg ?_
  refine tla ?_
  refine tl_nil ?_
  refine q_then_n ?_
  refine tc_seq ?_
  refine tc_reg ?_
  refine tlm ?_
  refine tlm ?_
  refine tl_x rfl (o_buildSliceL (k := 1) (vs := [.slice a1 m1 c1, .slice a2 m2 c2]) (l := [.slice a1 m1 c1, .slice a2 m2 c2]) Try.underlying33 sz28 z28 rfl rfl (by decide) (by decide) (by intro v hv; simp at hv; rcases hv with rfl | rfl <;> rfl) rfl) ?_
  rintro _ _ ⟨b7, rfl, rfl⟩
  refine tl_c rfl (o_call bd36 rfl (Two_j h1 h2 e1 e2 hl)) ?_
  rintro _ _ ⟨a8, c8, rfl, hc8, rfl⟩
  refine tla ?_
  refine tl_nil ?_
  refine q_then_n ?_
  refine tc_ret ?_
  exact ⟨_, _, res1 rfl rfl, Dr.sat (by repeat (first | with_reducible exact dr_refl | apply dr_keep | apply dr_drop)), a8, c8, rfl, hc8, rfl⟩
end Go.Vl

set_option linter.unusedVariables false
set_option linter.unusedSimpArgs false
namespace Go.Vl
open Go Go.Proofs
def planL (n : Int) : List Int := [n, 128, 32768, 32896, (n - 32896) / 256]
def planT (n : Int) : List Int × Int := if 36992 ≤ n ∧ n ≤ 4194304 ∧ n % 64 = 0 then (planL n, 0) else ([0, 0, 0, 0, 0], 80)
theorem planT_t {n : Int} (h : 36992 ≤ n ∧ n ≤ 4194304 ∧ n % 64 = 0) : planT n = (planL n, 0) := if_pos h
theorem planT_f {n : Int} (h : ¬ (36992 ≤ n ∧ n ≤ 4194304 ∧ n % 64 = 0)) : planT n = ([0, 0, 0, 0, 0], 80) := if_neg h
theorem planT_len (n : Int) : (planT n).1.length = 5 := by unfold planT; split <;> rfl
attribute [local irreducible] crk crL crc Sl pt ro planT
theorem Plan_c {A : SP} {n : Int} :
    Fn Try.prog 18 #[.int .i64 n] (A) (fun r B => r = .tuple #[.agg (ints (planT n).1).toArray, .int .i64 (planT n).2] ∧ A = B) := by
  refine fn_enterW (args := [.int .i64 n]) Try.func18 rfl Try.ntmps18 (by simp) ?_
  refine tc_seq ?_
  refine tc_reg ?_
  refine tl_x rfl (o_alloc z23 rfl) ?_
  rintro _ _ ⟨b2, rfl, rfl⟩
  refine tla ?_
  refine tl_nil ?_
  refine q_then_n ?_
  refine tc_seq ?_
  refine tc_seq ?_
  refine tc_reg ?_
  refine tlm ?_
  refine tl_v rfl (o_lss rfl rfl) ?_
  refine tlm ?_
  refine tl_bool (d := 6) rfl (fun h => ?_) (fun h => ?_)
  · try simp only [lv1, lv2, lv3, lv4, lv5, lv6, Bool.not_true, Bool.not_false] at h
    refine tl_skip rfl ?_
    refine tl_skip rfl ?_
    refine tl_v rfl (o_pick_t rfl (by conv => lhs; whnf)) ?_
    refine tlm ?_
    refine tl_skip rfl ?_
    refine tl_skip rfl ?_
    refine tl_skip rfl ?_
    refine tl_v rfl (o_pick_t rfl (by conv => lhs; whnf)) ?_
    refine tl_nil ?_
    refine q_then_n ?_
    refine tc_cond_t rfl ?_
    refine tc_seq ?_
    refine tc_reg ?_
    refine tl_v rfl (o_bS (l := ints [0, 0, 0, 0, 0]) pv_nil Try.underlying23 z23 (pl23 Try.underlying23) rfl) ?_
    refine tl_u rfl (o_stUN (l' := ints [0, 0, 0, 0, 0]) rfl upd_here sz23 rfl rfl rfl (by simp) rfl) ?_
    refine tla ?_
    refine tl_nil ?_
    refine q_then_n ?_
    refine tc_ret ?_
    refine q_then_r ?_
    first
    | (have hp := planT_t (n := n) (by omega); rw [hp]; exact ⟨.tuple #[.agg (ints (planL n)).toArray, .int .i64 0], A, resA2 rfl (rv_cell a23 sz23 rfl has_here (by show 5 ≤ 5; decide) rfl) (rv_tmp rfl), Dr.sat (by repeat (first | with_reducible exact dr_refl | apply dr_keep | apply dr_drop)), rfl, rfl⟩)
    | (have hp := planT_f (n := n) (by omega); rw [hp]; exact ⟨.tuple #[.agg (ints [0, 0, 0, 0, 0]).toArray, .int .i64 80], A, resA2 rfl (rv_cell a23 sz23 rfl has_here (by show 5 ≤ 5; decide) rfl) (rv_tmp rfl), Dr.sat (by repeat (first | with_reducible exact dr_refl | apply dr_keep | apply dr_drop)), rfl, rfl⟩)
  · try simp only [lv1, lv2, lv3, lv4, lv5, lv6, Bool.not_true, Bool.not_false] at h
    refine tlm ?_
    refine tl_v rfl (o_gtr rfl rfl) ?_
    refine tl_v rfl (o_pick_f rfl (by conv => lhs; whnf)) ?_
    refine tlm ?_
    refine tl_bool (d := 10) rfl (fun h => ?_) (fun h => ?_)
    · try simp only [lv1, lv2, lv3, lv4, lv5, lv6, Bool.not_true, Bool.not_false] at h
      refine tl_skip rfl ?_
      refine tl_skip rfl ?_
      refine tl_skip rfl ?_
      refine tl_v rfl (o_pick_t rfl (by conv => lhs; whnf)) ?_
      refine tl_nil ?_
      refine q_then_n ?_
      refine tc_cond_t rfl ?_
      refine tc_seq ?_
      refine tc_reg ?_
      refine tl_v rfl (o_bS (l := ints [0, 0, 0, 0, 0]) pv_nil Try.underlying23 z23 (pl23 Try.underlying23) rfl) ?_
      refine tl_u rfl (o_stUN (l' := ints [0, 0, 0, 0, 0]) rfl upd_here sz23 rfl rfl rfl (by simp) rfl) ?_
      refine tla ?_
      refine tl_nil ?_
      refine q_then_n ?_
      refine tc_ret ?_
      refine q_then_r ?_
      first
      | (have hp := planT_t (n := n) (by omega); rw [hp]; exact ⟨.tuple #[.agg (ints (planL n)).toArray, .int .i64 0], A, resA2 rfl (rv_cell a23 sz23 rfl has_here (by show 5 ≤ 5; decide) rfl) (rv_tmp rfl), Dr.sat (by repeat (first | with_reducible exact dr_refl | apply dr_keep | apply dr_drop)), rfl, rfl⟩)
      | (have hp := planT_f (n := n) (by omega); rw [hp]; exact ⟨.tuple #[.agg (ints [0, 0, 0, 0, 0]).toArray, .int .i64 80], A, resA2 rfl (rv_cell a23 sz23 rfl has_here (by show 5 ≤ 5; decide) rfl) (rv_tmp rfl), Dr.sat (by repeat (first | with_reducible exact dr_refl | apply dr_keep | apply dr_drop)), rfl, rfl⟩)
    · try simp only [lv1, lv2, lv3, lv4, lv5, lv6, Bool.not_true, Bool.not_false] at h
      refine tlm ?_
      refine tl_v rfl (by first | exact o_remI rfl rfl (by omega) | exact o_rem rfl rfl (by omega)) ?_
      refine tl_v rfl (o_nei rfl rfl) ?_
      refine tl_v rfl (o_pick_f rfl (by conv => lhs; whnf)) ?_
      refine tl_nil ?_
      refine q_then_n ?_
      refine tc_cond rfl (fun h => ?_) (fun h => ?_)
      · try simp only [lv1, lv2, lv3, lv4, lv5, lv6, Bool.not_true, Bool.not_false] at h
        refine tc_seq ?_
        refine tc_reg ?_
        refine tl_v rfl (o_bS (l := ints [0, 0, 0, 0, 0]) pv_nil Try.underlying23 z23 (pl23 Try.underlying23) rfl) ?_
        refine tl_u rfl (o_stUN (l' := ints [0, 0, 0, 0, 0]) rfl upd_here sz23 rfl rfl rfl (by simp) rfl) ?_
        refine tla ?_
        refine tl_nil ?_
        refine q_then_n ?_
        refine tc_ret ?_
        refine q_then_r ?_
        first
        | (have hp := planT_t (n := n) (by omega); rw [hp]; exact ⟨.tuple #[.agg (ints (planL n)).toArray, .int .i64 0], A, resA2 rfl (rv_cell a23 sz23 rfl has_here (by show 5 ≤ 5; decide) rfl) (rv_tmp rfl), Dr.sat (by repeat (first | with_reducible exact dr_refl | apply dr_keep | apply dr_drop)), rfl, rfl⟩)
        | (have hp := planT_f (n := n) (by omega); rw [hp]; exact ⟨.tuple #[.agg (ints [0, 0, 0, 0, 0]).toArray, .int .i64 80], A, resA2 rfl (rv_cell a23 sz23 rfl has_here (by show 5 ≤ 5; decide) rfl) (rv_tmp rfl), Dr.sat (by repeat (first | with_reducible exact dr_refl | apply dr_keep | apply dr_drop)), rfl, rfl⟩)
      · try simp only [lv1, lv2, lv3, lv4, lv5, lv6, Bool.not_true, Bool.not_false] at h
        refine tc_skip ?_
        refine q_then_n ?_
        refine tc_seq ?_
        refine tc_reg ?_
        refine tlm ?_
        refine tlm ?_
        refine tl_v rfl (by first | exact o_subI rfl rfl (by omega) | exact o_sub rfl rfl) ?_
        refine tl_v rfl (by first | exact o_quoI rfl rfl (by omega) | exact o_quo rfl rfl (by omega)) ?_
        refine tl_v rfl (o_bS (l := ints (planL n)) (pv_cons (by conv => lhs; whnf) (pv_cons (by conv => lhs; whnf) (pv_cons (by conv => lhs; whnf) (pv_cons (by conv => lhs; whnf) (pv_cons (by conv => lhs; whnf) pv_nil))))) Try.underlying23 z23 (pl23 Try.underlying23) rfl) ?_
        refine tl_u rfl (o_stUN (l' := ints (planL n)) rfl upd_here sz23 rfl rfl rfl (by simp) rfl) ?_
        refine tla ?_
        refine tl_nil ?_
        refine q_then_n ?_
        refine tc_ret ?_
        first
        | (have hp := planT_t (n := n) (by omega); rw [hp]; exact ⟨.tuple #[.agg (ints (planL n)).toArray, .int .i64 0], A, resA2 rfl (rv_cell a23 sz23 rfl has_here (by show 5 ≤ 5; decide) rfl) (rv_tmp rfl), Dr.sat (by repeat (first | with_reducible exact dr_refl | apply dr_keep | apply dr_drop)), rfl, rfl⟩)
        | (have hp := planT_f (n := n) (by omega); rw [hp]; exact ⟨.tuple #[.agg (ints [0, 0, 0, 0, 0]).toArray, .int .i64 80], A, resA2 rfl (rv_cell a23 sz23 rfl has_here (by show 5 ≤ 5; decide) rfl) (rv_tmp rfl), Dr.sat (by repeat (first | with_reducible exact dr_refl | apply dr_keep | apply dr_drop)), rfl, rfl⟩)
theorem PlanR_c {A : SP} {n : Int} :
    Fn Try.prog 19 #[.int .i64 n] (A) (fun r B => r = .tuple #[.agg (ints (planT n).1).toArray, .int .i64 (planT n).2] ∧ A = B) := by
  refine fn_enterW (args := [.int .i64 n]) Try.func19 rfl Try.ntmps19 (by simp) ?_
  refine tc_seq ?_
  refine tc_reg ?_
  refine tl_x rfl (o_alloc z23 rfl) ?_
  rintro _ _ ⟨b2, rfl, rfl⟩
  refine tla ?_
  refine tl_nil ?_
  refine q_then_n ?_
  refine tc_seq ?_
  refine tc_seq ?_
  refine tc_reg ?_
  refine tlm ?_
  refine tl_v rfl (o_lss rfl rfl) ?_
  refine tlm ?_
  refine tl_bool (d := 6) rfl (fun h => ?_) (fun h => ?_)
  · try simp only [lv1, lv2, lv3, lv4, lv5, lv6, Bool.not_true, Bool.not_false] at h
    refine tl_skip rfl ?_
    refine tl_skip rfl ?_
    refine tl_v rfl (o_pick_t rfl (by conv => lhs; whnf)) ?_
    refine tlm ?_
    refine tl_skip rfl ?_
    refine tl_skip rfl ?_
    refine tl_skip rfl ?_
    refine tl_v rfl (o_pick_t rfl (by conv => lhs; whnf)) ?_
    refine tl_nil ?_
    refine q_then_n ?_
    refine tc_cond_t rfl ?_
    refine tc_seq ?_
    refine tc_reg ?_
    refine tl_v rfl (o_bS (l := ints [0, 0, 0, 0, 0]) pv_nil Try.underlying23 z23 (pl23 Try.underlying23) rfl) ?_
    refine tl_u rfl (o_stUN (l' := ints [0, 0, 0, 0, 0]) rfl upd_here sz23 rfl rfl rfl (by simp) rfl) ?_
    refine tla ?_
    refine tl_nil ?_
    refine q_then_n ?_
    refine tc_ret ?_
    refine q_then_r ?_
    first
    | (have hp := planT_t (n := n) (by omega); rw [hp]; exact ⟨.tuple #[.agg (ints (planL n)).toArray, .int .i64 0], A, resA2 rfl (rv_cell a23 sz23 rfl has_here (by show 5 ≤ 5; decide) rfl) (rv_tmp rfl), Dr.sat (by repeat (first | with_reducible exact dr_refl | apply dr_keep | apply dr_drop)), rfl, rfl⟩)
    | (have hp := planT_f (n := n) (by omega); rw [hp]; exact ⟨.tuple #[.agg (ints [0, 0, 0, 0, 0]).toArray, .int .i64 80], A, resA2 rfl (rv_cell a23 sz23 rfl has_here (by show 5 ≤ 5; decide) rfl) (rv_tmp rfl), Dr.sat (by repeat (first | with_reducible exact dr_refl | apply dr_keep | apply dr_drop)), rfl, rfl⟩)
  · try simp only [lv1, lv2, lv3, lv4, lv5, lv6, Bool.not_true, Bool.not_false] at h
    refine tlm ?_
    refine tl_v rfl (o_gtr rfl rfl) ?_
    refine tl_v rfl (o_pick_f rfl (by conv => lhs; whnf)) ?_
    refine tlm ?_
    refine tl_bool (d := 10) rfl (fun h => ?_) (fun h => ?_)
    · try simp only [lv1, lv2, lv3, lv4, lv5, lv6, Bool.not_true, Bool.not_false] at h
      refine tl_skip rfl ?_
      refine tl_skip rfl ?_
      refine tl_skip rfl ?_
      refine tl_v rfl (o_pick_t rfl (by conv => lhs; whnf)) ?_
      refine tl_nil ?_
      refine q_then_n ?_
      refine tc_cond_t rfl ?_
      refine tc_seq ?_
      refine tc_reg ?_
      refine tl_v rfl (o_bS (l := ints [0, 0, 0, 0, 0]) pv_nil Try.underlying23 z23 (pl23 Try.underlying23) rfl) ?_
      refine tl_u rfl (o_stUN (l' := ints [0, 0, 0, 0, 0]) rfl upd_here sz23 rfl rfl rfl (by simp) rfl) ?_
      refine tla ?_
      refine tl_nil ?_
      refine q_then_n ?_
      refine tc_ret ?_
      refine q_then_r ?_
      first
      | (have hp := planT_t (n := n) (by omega); rw [hp]; exact ⟨.tuple #[.agg (ints (planL n)).toArray, .int .i64 0], A, resA2 rfl (rv_cell a23 sz23 rfl has_here (by show 5 ≤ 5; decide) rfl) (rv_tmp rfl), Dr.sat (by repeat (first | with_reducible exact dr_refl | apply dr_keep | apply dr_drop)), rfl, rfl⟩)
      | (have hp := planT_f (n := n) (by omega); rw [hp]; exact ⟨.tuple #[.agg (ints [0, 0, 0, 0, 0]).toArray, .int .i64 80], A, resA2 rfl (rv_cell a23 sz23 rfl has_here (by show 5 ≤ 5; decide) rfl) (rv_tmp rfl), Dr.sat (by repeat (first | with_reducible exact dr_refl | apply dr_keep | apply dr_drop)), rfl, rfl⟩)
    · try simp only [lv1, lv2, lv3, lv4, lv5, lv6, Bool.not_true, Bool.not_false] at h
      refine tlm ?_
      refine tl_v rfl (by first | exact o_remI rfl rfl (by omega) | exact o_rem rfl rfl (by omega)) ?_
      refine tl_v rfl (o_nei rfl rfl) ?_
      refine tl_v rfl (o_pick_f rfl (by conv => lhs; whnf)) ?_
      refine tl_nil ?_
      refine q_then_n ?_
      refine tc_cond rfl (fun h => ?_) (fun h => ?_)
      · try simp only [lv1, lv2, lv3, lv4, lv5, lv6, Bool.not_true, Bool.not_false] at h
        refine tc_seq ?_
        refine tc_reg ?_
        refine tl_v rfl (o_bS (l := ints [0, 0, 0, 0, 0]) pv_nil Try.underlying23 z23 (pl23 Try.underlying23) rfl) ?_
        refine tl_u rfl (o_stUN (l' := ints [0, 0, 0, 0, 0]) rfl upd_here sz23 rfl rfl rfl (by simp) rfl) ?_
        refine tla ?_
        refine tl_nil ?_
        refine q_then_n ?_
        refine tc_ret ?_
        refine q_then_r ?_
        first
        | (have hp := planT_t (n := n) (by omega); rw [hp]; exact ⟨.tuple #[.agg (ints (planL n)).toArray, .int .i64 0], A, resA2 rfl (rv_cell a23 sz23 rfl has_here (by show 5 ≤ 5; decide) rfl) (rv_tmp rfl), Dr.sat (by repeat (first | with_reducible exact dr_refl | apply dr_keep | apply dr_drop)), rfl, rfl⟩)
        | (have hp := planT_f (n := n) (by omega); rw [hp]; exact ⟨.tuple #[.agg (ints [0, 0, 0, 0, 0]).toArray, .int .i64 80], A, resA2 rfl (rv_cell a23 sz23 rfl has_here (by show 5 ≤ 5; decide) rfl) (rv_tmp rfl), Dr.sat (by repeat (first | with_reducible exact dr_refl | apply dr_keep | apply dr_drop)), rfl, rfl⟩)
      · try simp only [lv1, lv2, lv3, lv4, lv5, lv6, Bool.not_true, Bool.not_false] at h
        refine tc_skip ?_
        refine q_then_n ?_
        refine tc_seq ?_
        refine tc_reg ?_
        refine tlm ?_
        refine tlm ?_
        refine tl_v rfl (by first | exact o_subI rfl rfl (by omega) | exact o_sub rfl rfl) ?_
        refine tl_v rfl (by first | exact o_quoI rfl rfl (by omega) | exact o_quo rfl rfl (by omega)) ?_
        refine tl_v rfl (o_bS (l := ints (planL n)) (pv_cons (by conv => lhs; whnf) (pv_cons (by conv => lhs; whnf) (pv_cons (by conv => lhs; whnf) (pv_cons (by conv => lhs; whnf) (pv_cons (by conv => lhs; whnf) pv_nil))))) Try.underlying23 z23 (pl23 Try.underlying23) rfl) ?_
        refine tl_u rfl (o_stUN (l' := ints (planL n)) rfl upd_here sz23 rfl rfl rfl (by simp) rfl) ?_
        refine tla ?_
        refine tl_nil ?_
        refine q_then_n ?_
        refine tc_ret ?_
        first
        | (have hp := planT_t (n := n) (by omega); rw [hp]; exact ⟨.tuple #[.agg (ints (planL n)).toArray, .int .i64 0], A, resA2 rfl (rv_cell a23 sz23 rfl has_here (by show 5 ≤ 5; decide) rfl) (rv_tmp rfl), Dr.sat (by repeat (first | with_reducible exact dr_refl | apply dr_keep | apply dr_drop)), rfl, rfl⟩)
        | (have hp := planT_f (n := n) (by omega); rw [hp]; exact ⟨.tuple #[.agg (ints [0, 0, 0, 0, 0]).toArray, .int .i64 80], A, resA2 rfl (rv_cell a23 sz23 rfl has_here (by show 5 ≤ 5; decide) rfl) (rv_tmp rfl), Dr.sat (by repeat (first | with_reducible exact dr_refl | apply dr_keep | apply dr_drop)), rfl, rfl⟩)
end Go.Vl

set_option linter.unusedVariables false
set_option linter.unusedSimpArgs false
namespace Go.Vl
open Go Go.Proofs
theorem splice_whole {vs l : List Value} (h : vs.length = l.length) : splice l 0 vs = vs := by
  rw [splice_eq (by omega)]; simp [h]
def magicB : List Nat := [86, 69, 76, 76, 85, 77, 48, 49]
def mbs (ns : List Nat) : List Nat := magicB ++ ns.flatMap (le 8)
def sbB (ns : List Nat) : List Nat := mbs ns ++ le 8 (crc 0 (mbs ns))
theorem mbs_nil : mbs [] = magicB := by unfold mbs; simp
theorem mbs_len (ns : List Nat) : (mbs ns).length = 8 + 8 * ns.length := by
  unfold mbs
  rw [List.length_append]
  induction ns with
  | nil => rfl
  | cons n ns ih => rw [List.flatMap_cons, List.length_append, le_length]; simp at ih ⊢; omega
theorem mbs_take {ns : List Nat} {i v : Nat} (h : ns[i]? = some v) : mbs (ns.take (i + 1)) = mbs (ns.take i) ++ le 8 v := by
  unfold mbs
  obtain ⟨hi, rfl⟩ := List.getElem?_eq_some_iff.1 h
  rw [List.take_succ_eq_append_getElem hi, List.flatMap_append, List.append_assoc]; simp
theorem mbs_lt (ns : List Nat) : ∀ x ∈ mbs ns, x < 256 := by
  intro x hx
  unfold mbs at hx
  rw [List.mem_append, List.mem_flatMap] at hx
  rcases hx with hx | ⟨v, _, hx⟩
  · simp only [magicB, List.mem_cons, List.not_mem_nil, or_false] at hx; omega
  · exact le_bytes 8 v x hx
theorem sbB_len {ns : List Nat} (h : ns.length = 6) : (sbB ns).length = 64 := by unfold sbB; rw [List.length_append, mbs_len, le_length, h]
theorem Sum_1 {A : SP} {a : Option Addr} {m c b : Nat} {xs : List Nat} {E : TypeId} (h1 : Rs A a (bys xs)) (e1 : xs.length = m) (hb : ∀ x ∈ xs, x < 256) (hl : m ≤ 1099511627776) :
    Fn Try.prog 132 #[.slice (some ⟨b, 0, none⟩) 1 1] (A * pt b (cl [.slice a m c] E)) (fun r B => r = .int .u32 ((crc 0 xs : Nat) : Int) ∧ A * pt b (cl [.slice a m c] E) = B) := by
  subst e1
  refine fn_rs (xs := [.slice a xs.length c]) rs_pt0 fun hr => ?_
  refine fn_rs h1.left fun h1 => ?_
  exact Sum_c (ls := [xs]) ⟨_, rfl, hr, fun i hi => by
    match i, hi with
    | 0, _ => exact ⟨a, c, rfl, h1⟩⟩ rfl (by intro l hl; simp at hl; subst hl; exact hb) (by intro l hm; simp at hm; subst hm; exact hl) (by decide)
attribute [local irreducible] crk crL crc Sl pt ro planT mbs
set_option maxRecDepth 20000 in
set_option maxHeartbeats 1000000 in
theorem laid_c {A : SP} {n0 n1 n2 n3 n4 : Nat} (hn : n0 < 9223372036854775808 ∧ n1 < 9223372036854775808 ∧ n2 < 9223372036854775808 ∧ n3 < 9223372036854775808 ∧ n4 < 9223372036854775808) :
    Fn Try.prog 83 #[.agg (ints [(n0 : Int), (n1 : Int), (n2 : Int), (n3 : Int), (n4 : Int)]).toArray] (A) (fun r B => r = .agg (bys (sbB [n0, n1, n2, n3, n4, 0])).toArray ∧ A = B) := by
  refine fn_enterW (args := [.agg (ints [(n0 : Int), (n1 : Int), (n2 : Int), (n3 : Int), (n4 : Int)]).toArray]) Try.func83 rfl Try.ntmps83 (by simp) ?_
  refine tc_seq ?_
  refine tc_reg ?_
  refine tl_x rfl (o_box rfl rfl) ?_
  rintro _ _ ⟨b1, rfl, rfl⟩
  refine tl_x rfl (o_alloc z139 rfl) ?_
  rintro _ _ ⟨b2, rfl, rfl⟩
  refine tl_nil ?_
  refine q_then_n ?_
  refine tc_seq ?_
  refine tc_reg ?_
  refine tl_x rfl (o_buildSliceL (k := 1) (vs := bys magicB) (l := bys magicB) Try.underlying28 sz5 z5 rfl rfl (by decide) (by decide) (by intro v hv; have := List.all_eq_true.1 (bys_all magicB) v hv; cases v <;> first | (simp [oneC] at this; done) | rfl) rfl) ?_
  rintro _ _ ⟨b6, rfl, rfl⟩
  refine tl_x rfl (o_cpyS Try.underlying28 Try.underlying5 rfl (by repeat (first | with_reducible exact upd_here | with_reducible exact upd_pt | apply upd_left))) ?_
  rintro _ _ ⟨rfl, rfl⟩
  refine tla ?_
  refine tl_nil ?_
  refine q_then_n ?_
  refine tc_seq ?_
  refine tc_seq ?_
  refine tc_reg ?_
  refine tl_v rfl (o_fieldAddr (o := 0) Try.underlying23 rfl rfl sz3 rfl) ?_
  refine tl_v rfl (by first | exact o_load p3 rfl (by repeat (first | with_reducible exact has_here | with_reducible exact has_pt | apply has_left)) rfl | exact o_loadC p3 rfl (by assumption)) ?_
  refine tl_v rfl (o_fieldAddr (o := 1) Try.underlying23 rfl rfl sz3 rfl) ?_
  refine tl_v rfl (by first | exact o_load p3 rfl (by repeat (first | with_reducible exact has_here | with_reducible exact has_pt | apply has_left)) rfl | exact o_loadC p3 rfl (by assumption)) ?_
  refine tl_v rfl (o_fieldAddr (o := 2) Try.underlying23 rfl rfl sz3 rfl) ?_
  refine tl_v rfl (by first | exact o_load p3 rfl (by repeat (first | with_reducible exact has_here | with_reducible exact has_pt | apply has_left)) rfl | exact o_loadC p3 rfl (by assumption)) ?_
  refine tl_v rfl (o_fieldAddr (o := 3) Try.underlying23 rfl rfl sz3 rfl) ?_
  refine tl_v rfl (by first | exact o_load p3 rfl (by repeat (first | with_reducible exact has_here | with_reducible exact has_pt | apply has_left)) rfl | exact o_loadC p3 rfl (by assumption)) ?_
  refine tl_v rfl (o_fieldAddr (o := 4) Try.underlying23 rfl rfl sz3 rfl) ?_
  refine tl_v rfl (by first | exact o_load p3 rfl (by repeat (first | with_reducible exact has_here | with_reducible exact has_pt | apply has_left)) rfl | exact o_loadC p3 rfl (by assumption)) ?_
  refine tl_v rfl (o_buildA (vs := ints [(n0 : Int), (n1 : Int), (n2 : Int), (n3 : Int), (n4 : Int)]) Try.underlying183 sz3 z183 rfl rfl rfl (by show 5 ≤ 6; decide) rfl) ?_
  refine tlm ?_
  refine tl_nil ?_
  refine q_then_n ?_
  refine tc_block ?_
  refine tc_loop (fun kk ρ BB => ∃ (i : Nat) (a3 : Option Addr) (c3 : Nat) (X : SP), (i ≤ 6) ∧ (Rs (A * pt b1 (cl (ints [(n0 : Int), (n1 : Int), (n2 : Int), (n3 : Int), (n4 : Int)]) 23) * pt b2 (cl (List.replicate 64 (.int .u8 0)) 139) * X) a3 (bys (mbs (([n0, n1, n2, n3, n4, 0] : List Nat).take i)))) ∧ kk = 6 - i ∧ ρ 3 = .slice a3 (8 + 8 * i) c3 ∧ ρ 19 = .int .i64 (i : Nat) ∧ ρ 2 = .pointer (some ⟨b2, 0, none⟩) ∧ ρ 18 = .agg (ints [(n0 : Int), (n1 : Int), (n2 : Int), (n3 : Int), (n4 : Int), 0]).toArray ∧ BB = A * pt b1 (cl (ints [(n0 : Int), (n1 : Int), (n2 : Int), (n3 : Int), (n4 : Int)]) 23) * pt b2 (cl (List.replicate 64 (.int .u8 0)) 139) * X) (m := 6 - (0)) ?_ ?_
  · exact ⟨0, some ⟨b6, 0, none⟩, 8, pt b6 (.cells (bys magicB).toArray 5 (8, 9)), by omega, by rw [List.take_zero, mbs_nil]; exact rs_mk, rfl, rfl, rfl, rfl, rfl, rfl⟩
  · intro k ρ B hI
    obtain ⟨i, a3, c3, X, hp0, hp1, hkk1, hE3, hE19, hE2, hE18, rfl⟩ := hI
    refine tc_env (d := 3) hE3 ?_
    refine tc_env (d := 19) hE19 ?_
    refine tc_env (d := 2) hE2 ?_
    refine tc_env (d := 18) hE18 ?_
    clear hE3 hE19 hE2 hE18
    refine tc_seq ?_
    refine tc_reg ?_
    refine tl_v rfl (o_lss rfl rfl) ?_
    refine tl_nil ?_
    refine q_then_n ?_
    refine tc_seq ?_
    refine tc_cond rfl (fun h => ?_) (fun h => ?_)
    · have hi : i < 6 := by simp at h; omega
      obtain ⟨v, hv1, hv2, hv3⟩ : ∃ v : Nat, (ints [(n0 : Int), (n1 : Int), (n2 : Int), (n3 : Int), (n4 : Int), 0])[i]? = some (.int .i64 (v : Int)) ∧ ([n0, n1, n2, n3, n4, 0] : List Nat)[i]? = some v ∧ v < 9223372036854775808 := by
        match i, hi with
        | 0, _ => exact ⟨n0, rfl, rfl, hn.1⟩
        | 1, _ => exact ⟨n1, rfl, rfl, hn.2.1⟩
        | 2, _ => exact ⟨n2, rfl, rfl, hn.2.2.1⟩
        | 3, _ => exact ⟨n3, rfl, rfl, hn.2.2.2.1⟩
        | 4, _ => exact ⟨n4, rfl, rfl, hn.2.2.2.2⟩
        | 5, _ => exact ⟨0, rfl, rfl, by decide⟩
      have hml : (mbs (([n0, n1, n2, n3, n4, 0] : List Nat).take i)).length = 8 + 8 * i := by rw [mbs_len, List.length_take]; simp; omega
      refine tc_skip ?_
      refine q_then_n ?_
      refine tc_seq ?_
      refine tc_block ?_
      refine tc_seq ?_
      refine tc_reg ?_
      refine tl_v rfl (o_index1 Try.underlying183 sz3 p3 rfl rfl (by omega) (by omega) hv1) ?_
      refine tla ?_
      refine tl_nil ?_
      refine q_then_n ?_
      refine tc_reg ?_
      refine tlm ?_
      refine tlm ?_
      refine tl_v rfl (by first | exact o_conv64 Try.underlying3 Try.underlying53 rfl | exact o_conv Try.underlying3 Try.underlying53 rfl) ?_
      refine tl_env (d := 24) (v := .int .u64 ((v : Nat) : Int)) (congrArg (fun z : Nat => Value.int .u64 (z : Int)) (Nat.mod_eq_of_lt (by omega))) ?_
      refine tl_c rfl (o_call bd99 rfl (Put64_c (hr := hp1) (hm := hml) (v := v))) ?_
      rintro _ _ ⟨a25, c25, rfl, hc25, rfl⟩
      refine tla ?_
      refine tl_nil ?_
      refine q_block_n (q_then_n ?_)
      refine tc_reg ?_
      refine tl_v rfl (by first | exact o_addI rfl rfl (by omega) | exact o_add rfl rfl) ?_
      refine tlm ?_
      refine tl_nil ?_
      refine q_then_n ?_
      exact ⟨_, by omega, i + 1, _, _, _, by omega, by rw [mbs_take hv2, ← star_assoc]; exact rs_sl, rfl, rfl, rfl, rfl, rfl, (star_assoc _ _ _)⟩
    · obtain rfl : i = 6 := by simp at h; omega
      rw [show ([n0, n1, n2, n3, n4, 0] : List Nat).take 6 = [n0, n1, n2, n3, n4, 0] from rfl] at hp1
      have hml : (mbs [n0, n1, n2, n3, n4, 0]).length = 56 := mbs_len _
      have hmb := mbs_lt [n0, n1, n2, n3, n4, 0]
      have hcc := crc_lt (s := 0) (by decide) hmb
      refine tc_exit ?_
      refine q_then_e (q_then_e (q_block_x (q_then_n ?_)))
      refine tc_seq ?_
      refine tc_reg ?_
      refine tlm ?_
      refine tlm ?_
      refine tl_x rfl (o_buildSlice1 Try.underlying33 sz28 z28 (by conv => lhs; whnf) rfl) ?_
      rintro _ _ ⟨b29, rfl, rfl⟩
      refine tl_c rfl (o_call bd132 rfl (Sum_1 hp1 hml hmb (by decide))) ?_
      rintro _ _ ⟨rfl, rfl⟩
      refine tl_v rfl (by first | exact o_conv64 Try.underlying114 Try.underlying53 rfl | exact o_conv Try.underlying114 Try.underlying53 rfl) ?_
      refine tl_env (d := 31) (v := .int .u64 ((crc 0 (mbs [n0, n1, n2, n3, n4, 0]) : Nat) : Int)) (congrArg (fun z : Nat => Value.int .u64 (z : Int)) (Nat.mod_eq_of_lt (by omega))) ?_
      refine tl_c rfl (o_call bd99 rfl (Put64_c (hr := hp1.left) (hm := hml))) ?_
      rintro _ _ ⟨a32, c32, rfl, hc32, rfl⟩
      refine tl_have (fun g w h => nn_sl (by decide) g w h (by omega)) fun ⟨b32, o32, e32⟩ => ?_
      subst e32
      refine tl_v rfl (o_s2a (m := 64) Try.underlying139 rfl (by decide)) ?_
      refine tl_v rfl (o_ldPN (a := some ⟨b32, o32, none⟩) (i := 0) (vs := bys (sbB [n0, n1, n2, n3, n4, 0])) a139 sz139 rfl rs_sl (by rw [List.drop_zero]; exact List.take_of_length_le (by rw [bys_length, ← sbB]; rw [sbB_len rfl]; decide)) (by rw [bys_length, sbB_len rfl]) (by decide)) ?_
      refine tl_u rfl (o_stUN (l' := bys (sbB [n0, n1, n2, n3, n4, 0])) rfl (by repeat (first | with_reducible exact upd_here | with_reducible exact upd_pt | apply upd_left)) sz139 rfl (by rw [bys_length, sbB_len rfl]) (bys_all _) (by simp) (splice_whole (by rw [bys_length, sbB_len rfl, List.length_replicate]))) ?_
      refine tl_nil ?_
      refine q_then_n ?_
      refine tc_ret ?_
      exact ⟨.agg (bys (sbB [n0, n1, n2, n3, n4, 0])).toArray, A, resA1 rfl (rv_cell a139 sz139 rfl (by repeat (first | with_reducible exact has_here | with_reducible exact has_pt | apply has_left)) (by rw [bys_length, sbB_len rfl]; decide) (by rw [List.drop_zero]; exact List.take_of_length_le (by rw [bys_length, sbB_len rfl]; decide))), Dr.sat (by repeat (first | with_reducible exact dr_refl | apply dr_keep | apply dr_drop)), rfl, rfl⟩
end Go.Vl

set_option linter.unusedVariables false
set_option linter.unusedSimpArgs false
namespace Go.Vl
open Go Go.Proofs
theorem planL_ok {n : Nat} (hn : 36992 ≤ n ∧ n ≤ 4194304 ∧ n % 64 = 0) : planT (n : Int) = ([(n : Int), ((128 : Nat) : Int), ((32768 : Nat) : Int), ((32896 : Nat) : Int), (((n - 32896) / 256 : Nat) : Int)], 0) := by
  rw [planT_t (by omega)]
  unfold planL
  have : ((n : Int) - 32896) / 256 = (((n - 32896) / 256 : Nat) : Int) := by omega
  rw [this]; rfl
theorem Plan_ok {A : SP} {n : Nat} (hn : 36992 ≤ n ∧ n ≤ 4194304 ∧ n % 64 = 0) : Fn Try.prog 18 #[.int .i64 (n : Int)] A (fun r B => r = .tuple #[.agg (ints [(n : Int), ((128 : Nat) : Int), ((32768 : Nat) : Int), ((32896 : Nat) : Int), (((n - 32896) / 256 : Nat) : Int)]).toArray, .int .i64 0] ∧ A = B) := by
  have := Plan_c (A := A) (n := (n : Int))
  rw [planL_ok hn] at this; exact this
theorem PlanR_ok {A : SP} {n : Nat} (hn : 36992 ≤ n ∧ n ≤ 4194304 ∧ n % 64 = 0) : Fn Try.prog 19 #[.int .i64 (n : Int)] A (fun r B => r = .tuple #[.agg (ints [(n : Int), ((128 : Nat) : Int), ((32768 : Nat) : Int), ((32896 : Nat) : Int), (((n - 32896) / 256 : Nat) : Int)]).toArray, .int .i64 0] ∧ A = B) := by
  have := PlanR_c (A := A) (n := (n : Int))
  rw [planL_ok hn] at this; exact this
attribute [local irreducible] crk crL crc Sl pt ro planT mbs sbB
set_option maxRecDepth 20000 in
set_option maxHeartbeats 1000000 in
theorem Line_ok {A : SP} {n : Nat} (hn : 36992 ≤ n ∧ n ≤ 4194304 ∧ n % 64 = 0) :
    Fn Try.prog 20 #[.agg (ints [(n : Int), ((128 : Nat) : Int), ((32768 : Nat) : Int), ((32896 : Nat) : Int), (((n - 32896) / 256 : Nat) : Int)]).toArray] (A) (fun r B => ∃ a c, r = .tuple #[.slice a 64 c, .int .i64 0] ∧ 64 ≤ c ∧ B = A * Sl 1 (.slice a 64 c) 64 (bys (sbB [n, 128, 32768, 32896, (n - 32896) / 256, 0]))) := by
  refine fn_enterW (args := [.agg (ints [(n : Int), ((128 : Nat) : Int), ((32768 : Nat) : Int), ((32896 : Nat) : Int), (((n - 32896) / 256 : Nat) : Int)]).toArray]) Try.func20 rfl Try.ntmps20 (by simp) ?_
  refine tc_seq ?_
  refine tc_reg ?_
  refine tl_x rfl (o_box rfl rfl) ?_
  rintro _ _ ⟨b1, rfl, rfl⟩
  refine tla ?_
  refine tla ?_
  refine tl_nil ?_
  refine q_then_n ?_
  refine tc_seq ?_
  refine tc_seq ?_
  refine tc_reg ?_
  refine tl_v rfl (o_fieldAddr (o := 0) Try.underlying23 rfl rfl sz3 rfl) ?_
  refine tl_v rfl (by first | exact o_load p3 rfl (by repeat (first | with_reducible exact has_here | with_reducible exact has_pt | apply has_left)) rfl | exact o_loadC p3 rfl (by assumption)) ?_
  refine tl_c rfl (o_call bd18 rfl (Plan_ok hn)) ?_
  rintro _ _ ⟨rfl, rfl⟩
  refine tlm ?_
  refine tl_v rfl (o_extract rfl rfl) ?_
  refine tl_v rfl (o_extract rfl rfl) ?_
  refine tl_x rfl (o_alloc z23 rfl) ?_
  rintro _ _ ⟨b4, rfl, rfl⟩
  refine tl_u rfl (o_stUN (l' := ints [(n : Int), ((128 : Nat) : Int), ((32768 : Nat) : Int), ((32896 : Nat) : Int), (((n - 32896) / 256 : Nat) : Int)]) rfl (by repeat (first | with_reducible exact upd_here | with_reducible exact upd_pt | apply upd_left)) sz23 rfl rfl rfl (by simp) rfl) ?_
  refine tla ?_
  refine tl_nil ?_
  refine q_then_n ?_
  refine tc_seq ?_
  refine tc_reg ?_
  refine tlm ?_
  refine tl_v rfl (o_nei rfl rfl) ?_
  refine tlm ?_
  refine tl_bool (d := 15) rfl (fun h => ?_) (fun h => ?_)
  · (exfalso; first | (revert h; simp; done) | (simp at h; done) | (revert h; simp; omega) | (simp at h; omega) | omega)
  · try simp only [lv1, lv2, lv3, lv4, lv5, lv6, Bool.not_true, Bool.not_false] at h
    refine tl_v rfl (o_loadN (vs := ints [(n : Int), ((128 : Nat) : Int), ((32768 : Nat) : Int), ((32896 : Nat) : Int), (((n - 32896) / 256 : Nat) : Int)]) a23 sz23 rfl (by repeat (first | with_reducible exact has_here | with_reducible exact has_pt | apply has_left)) (by show 5 ≤ 5; decide) rfl) ?_
    refine tl_v rfl (o_loadN (vs := ints [(n : Int), ((128 : Nat) : Int), ((32768 : Nat) : Int), ((32896 : Nat) : Int), (((n - 32896) / 256 : Nat) : Int)]) a23 sz23 rfl (by repeat (first | with_reducible exact has_here | with_reducible exact has_pt | apply has_left)) (by show 5 ≤ 5; decide) rfl) ?_
    refine tl_v rfl (o_nest (k := 5) (l := [(n : Int), ((128 : Nat) : Int), ((32768 : Nat) : Int), ((32896 : Nat) : Int), (((n - 32896) / 256 : Nat) : Int)]) (m := [(n : Int), ((128 : Nat) : Int), ((32768 : Nat) : Int), ((32896 : Nat) : Int), (((n - 32896) / 256 : Nat) : Int)]) Try.underlying23 (by kernel_rfl) (by kernel_rfl) (by kernel_rfl) rfl rfl rfl rfl) ?_
    refine tl_v rfl (o_pick_f rfl (by conv => lhs; whnf)) ?_
    refine tl_nil ?_
    refine q_then_n ?_
    refine tc_cond rfl (fun h => ?_) (fun h => ?_)
    · exfalso; simp at h
    · try simp only [lv1, lv2, lv3, lv4, lv5, lv6, Bool.not_true, Bool.not_false] at h
      refine tc_skip ?_
      refine q_then_n ?_
      refine tc_seq ?_
      refine tc_reg ?_
      refine tl_v rfl (o_loadN (vs := ints [(n : Int), ((128 : Nat) : Int), ((32768 : Nat) : Int), ((32896 : Nat) : Int), (((n - 32896) / 256 : Nat) : Int)]) a23 sz23 rfl (by repeat (first | with_reducible exact has_here | with_reducible exact has_pt | apply has_left)) (by show 5 ≤ 5; decide) rfl) ?_
      refine tl_c rfl (o_call bd83 rfl (laid_c (by omega))) ?_
      rintro _ _ ⟨rfl, rfl⟩
      refine tl_x rfl (o_alloc z139 rfl) ?_
      rintro _ _ ⟨b6, rfl, rfl⟩
      refine tl_u rfl (o_stUN (l' := bys (sbB [n, 128, 32768, 32896, (n - 32896) / 256, 0])) rfl (by repeat (first | with_reducible exact upd_here | with_reducible exact upd_pt | apply upd_left)) sz139 rfl (by rw [bys_length, sbB_len rfl]) (bys_all _) (by simp) (splice_whole (by rw [bys_length, sbB_len rfl]; rfl))) ?_
      refine tl_nil ?_
      refine q_then_n ?_
      refine tc_seq ?_
      refine tc_reg ?_
      refine tl_v rfl (o_sliceA Try.underlying139 sz5 rfl bnd_none bnd_none (by omega) (by omega)) ?_
      refine tla ?_
      refine tla ?_
      refine tl_nil ?_
      refine q_then_n ?_
      refine tc_ret ?_
      exact ⟨.tuple #[.slice (some ⟨b6, 0, none⟩) 64 64, .int .i64 0], A * Sl 1 (.slice (some ⟨b6, 0, none⟩) 64 64) 64 (bys (sbB [n, 128, 32768, 32896, (n - 32896) / 256, 0])), res2 rfl rfl rfl, fun _ _ h => (Dr.sat (by repeat (first | with_reducible exact dr_refl | apply dr_keep | apply dr_drop))) _ _ (sl_new (k := 1) (n := 64) (cap := 64) (xs := bys (sbB [n, 128, 32768, 32896, (n - 32896) / 256, 0])) h (by omega) (by rw [bys_length, sbB_len rfl]; decide) (by exact List.take_of_length_le (by rw [bys_length, sbB_len rfl]; decide))), _, _, rfl, by decide, rfl⟩
end Go.Vl

set_option linter.unusedVariables false
set_option linter.unusedSimpArgs false
namespace Go.Vl
open Go Go.Proofs
theorem Text_m {A : SP} : Fn Try.prog 84 #[.string ⟨#[86, 69, 76, 76, 85, 77, 48, 49]⟩] A (fun r B => ∃ a c, r = .slice a 8 c ∧ 8 ≤ c ∧ B = A * Sl 1 (.slice a 8 c) 8 (bys magicB)) := Text_c (s := ⟨#[86, 69, 76, 76, 85, 77, 48, 49]⟩)
theorem sbB_def (ns : List Nat) : sbB ns = mbs ns ++ le 8 (crc 0 (mbs ns)) := rfl
attribute [local irreducible] crk crL crc Sl pt ro planT mbs sbB
set_option maxRecDepth 20000 in
set_option maxHeartbeats 1000000 in
theorem LineR_ok {A : SP} {n : Nat} (hn : 36992 ≤ n ∧ n ≤ 4194304 ∧ n % 64 = 0) :
    Fn Try.prog 21 #[.agg (ints [(n : Int), ((128 : Nat) : Int), ((32768 : Nat) : Int), ((32896 : Nat) : Int), (((n - 32896) / 256 : Nat) : Int)]).toArray] (A) (fun r B => ∃ a c, r = .tuple #[.slice a 64 c, .int .i64 0] ∧ 64 ≤ c ∧ B = A * Sl 1 (.slice a 64 c) 64 (bys (sbB [n, 128, 32768, 32896, (n - 32896) / 256, 0]))) := by
  refine fn_enterW (args := [.agg (ints [(n : Int), ((128 : Nat) : Int), ((32768 : Nat) : Int), ((32896 : Nat) : Int), (((n - 32896) / 256 : Nat) : Int)]).toArray]) Try.func21 rfl Try.ntmps21 (by simp) ?_
  refine tc_seq ?_
  refine tc_reg ?_
  refine tl_x rfl (o_box rfl rfl) ?_
  rintro _ _ ⟨b1, rfl, rfl⟩
  refine tla ?_
  refine tla ?_
  refine tl_nil ?_
  refine q_then_n ?_
  refine tc_seq ?_
  refine tc_reg ?_
  refine tl_v rfl (o_fieldAddr (o := 0) Try.underlying23 rfl rfl sz3 rfl) ?_
  refine tl_v rfl (by first | exact o_load p3 rfl (by repeat (first | with_reducible exact has_here | with_reducible exact has_pt | apply has_left)) rfl | exact o_loadC p3 rfl (by assumption)) ?_
  refine tl_c rfl (o_call bd19 rfl (PlanR_ok hn)) ?_
  rintro _ _ ⟨rfl, rfl⟩
  refine tlm ?_
  refine tl_v rfl (o_extract rfl rfl) ?_
  refine tl_v rfl (o_extract rfl rfl) ?_
  refine tl_x rfl (o_alloc z23 rfl) ?_
  rintro _ _ ⟨b4, rfl, rfl⟩
  refine tl_u rfl (o_stUN (l' := ints [(n : Int), ((128 : Nat) : Int), ((32768 : Nat) : Int), ((32896 : Nat) : Int), (((n - 32896) / 256 : Nat) : Int)]) rfl (by repeat (first | with_reducible exact upd_here | with_reducible exact upd_pt | apply upd_left)) sz23 rfl rfl rfl (by simp) rfl) ?_
  refine tla ?_
  refine tl_nil ?_
  refine q_then_n ?_
  refine tc_seq ?_
  refine tc_seq ?_
  refine tc_reg ?_
  refine tlm ?_
  refine tl_v rfl (o_nei rfl rfl) ?_
  refine tlm ?_
  refine tl_bool (d := 17) rfl (fun h => ?_) (fun h => ?_)
  · (exfalso; first | (revert h; simp; done) | (simp at h; done) | (revert h; simp; omega) | (simp at h; omega) | omega)
  · try simp only [lv1, lv2, lv3, lv4, lv5, lv6, Bool.not_true, Bool.not_false] at h
    refine tl_v rfl (o_loadN (vs := ints [(n : Int), ((128 : Nat) : Int), ((32768 : Nat) : Int), ((32896 : Nat) : Int), (((n - 32896) / 256 : Nat) : Int)]) a23 sz23 rfl (by repeat (first | with_reducible exact has_here | with_reducible exact has_pt | apply has_left)) (by show 5 ≤ 5; decide) rfl) ?_
    refine tl_v rfl (o_loadN (vs := ints [(n : Int), ((128 : Nat) : Int), ((32768 : Nat) : Int), ((32896 : Nat) : Int), (((n - 32896) / 256 : Nat) : Int)]) a23 sz23 rfl (by repeat (first | with_reducible exact has_here | with_reducible exact has_pt | apply has_left)) (by show 5 ≤ 5; decide) rfl) ?_
    refine tl_v rfl (o_nest (k := 5) (l := [(n : Int), ((128 : Nat) : Int), ((32768 : Nat) : Int), ((32896 : Nat) : Int), (((n - 32896) / 256 : Nat) : Int)]) (m := [(n : Int), ((128 : Nat) : Int), ((32768 : Nat) : Int), ((32896 : Nat) : Int), (((n - 32896) / 256 : Nat) : Int)]) Try.underlying23 (by kernel_rfl) (by kernel_rfl) (by kernel_rfl) rfl rfl rfl rfl) ?_
    refine tl_v rfl (o_pick_f rfl (by conv => lhs; whnf)) ?_
    refine tl_nil ?_
    refine q_then_n ?_
    refine tc_cond rfl (fun h => ?_) (fun h => ?_)
    · exfalso; simp at h
    · try simp only [lv1, lv2, lv3, lv4, lv5, lv6, Bool.not_true, Bool.not_false] at h
      refine tc_skip ?_
      refine q_then_n ?_
      refine tc_seq ?_
      refine tc_reg ?_
      refine tl_c rfl (o_call bd84 rfl (Text_m)) ?_
      rintro _ _ ⟨a22, c22, rfl, hc22, rfl⟩
      refine tla ?_
      refine tl_nil ?_
      refine q_then_n ?_
      refine tc_seq ?_
      refine tc_reg ?_
      refine tl_v rfl (o_fieldAddr (o := 0) Try.underlying23 rfl rfl sz3 rfl) ?_
      refine tl_v rfl (by first | exact o_load p3 rfl (by repeat (first | with_reducible exact has_here | with_reducible exact has_pt | apply has_left)) rfl | exact o_loadC p3 rfl (by assumption)) ?_
      refine tl_v rfl (o_fieldAddr (o := 1) Try.underlying23 rfl rfl sz3 rfl) ?_
      refine tl_v rfl (by first | exact o_load p3 rfl (by repeat (first | with_reducible exact has_here | with_reducible exact has_pt | apply has_left)) rfl | exact o_loadC p3 rfl (by assumption)) ?_
      refine tl_v rfl (o_fieldAddr (o := 2) Try.underlying23 rfl rfl sz3 rfl) ?_
      refine tl_v rfl (by first | exact o_load p3 rfl (by repeat (first | with_reducible exact has_here | with_reducible exact has_pt | apply has_left)) rfl | exact o_loadC p3 rfl (by assumption)) ?_
      refine tl_v rfl (o_fieldAddr (o := 3) Try.underlying23 rfl rfl sz3 rfl) ?_
      refine tl_v rfl (by first | exact o_load p3 rfl (by repeat (first | with_reducible exact has_here | with_reducible exact has_pt | apply has_left)) rfl | exact o_loadC p3 rfl (by assumption)) ?_
      refine tl_v rfl (o_fieldAddr (o := 4) Try.underlying23 rfl rfl sz3 rfl) ?_
      refine tl_v rfl (by first | exact o_load p3 rfl (by repeat (first | with_reducible exact has_here | with_reducible exact has_pt | apply has_left)) rfl | exact o_loadC p3 rfl (by assumption)) ?_
      refine tl_x rfl (o_buildSliceL (k := 1) (vs := ints [(n : Int), ((128 : Nat) : Int), ((32768 : Nat) : Int), ((32896 : Nat) : Int), (((n - 32896) / 256 : Nat) : Int), ((0 : Nat) : Int)]) (l := ints [(n : Int), ((128 : Nat) : Int), ((32768 : Nat) : Int), ((32896 : Nat) : Int), (((n - 32896) / 256 : Nat) : Int), ((0 : Nat) : Int)]) Try.underlying37 sz3 z3 rfl rfl (by decide) (by decide) (by intro v hv; have := List.all_eq_true.1 (ints_all [(n : Int), ((128 : Nat) : Int), ((32768 : Nat) : Int), ((32896 : Nat) : Int), (((n - 32896) / 256 : Nat) : Int), ((0 : Nat) : Int)]) v hv; cases v <;> first | (simp [oneC] at this; done) | rfl) rfl) ?_
      rintro _ _ ⟨b33, rfl, rfl⟩
      refine tla ?_
      refine tl_nil ?_
      refine q_then_n ?_
      refine tc_seq ?_
      refine tc_seq ?_
      refine tc_reg ?_
      refine tla ?_
      refine tl_nil ?_
      refine q_then_n ?_
      refine tc_block ?_
      refine tc_eq (star_swap _ _ _) ?_
      refine tc_loop (fun kk ρ BB => ∃ (i : Nat) (a6 : Option Addr) (c6 : Nat) (X : SP), (i ≤ 6) ∧ (Rs (A * pt b1 (cl (ints [(n : Int), ((128 : Nat) : Int), ((32768 : Nat) : Int), ((32896 : Nat) : Int), (((n - 32896) / 256 : Nat) : Int)]) 23) * pt b4 (cl (ints [(n : Int), ((128 : Nat) : Int), ((32768 : Nat) : Int), ((32896 : Nat) : Int), (((n - 32896) / 256 : Nat) : Int)]) 23) * pt b33 (cl (ints [(n : Int), ((128 : Nat) : Int), ((32768 : Nat) : Int), ((32896 : Nat) : Int), (((n - 32896) / 256 : Nat) : Int), ((0 : Nat) : Int)]) 3) * X) a6 (bys (mbs (([n, 128, 32768, 32896, (n - 32896) / 256, 0] : List Nat).take i)))) ∧ kk = 6 - i ∧ ρ 6 = .slice a6 (8 + 8 * i) c6 ∧ ρ 8 = .int .i64 (i : Nat) ∧ ρ 7 = .slice (some ⟨b33, 0, none⟩) 6 6 ∧ BB = A * pt b1 (cl (ints [(n : Int), ((128 : Nat) : Int), ((32768 : Nat) : Int), ((32896 : Nat) : Int), (((n - 32896) / 256 : Nat) : Int)]) 23) * pt b4 (cl (ints [(n : Int), ((128 : Nat) : Int), ((32768 : Nat) : Int), ((32896 : Nat) : Int), (((n - 32896) / 256 : Nat) : Int)]) 23) * pt b33 (cl (ints [(n : Int), ((128 : Nat) : Int), ((32768 : Nat) : Int), ((32896 : Nat) : Int), (((n - 32896) / 256 : Nat) : Int), ((0 : Nat) : Int)]) 3) * X) (m := 6 - (0)) ?_ ?_
      · exact ⟨0, a22, c22, Sl 1 (.slice a22 8 c22) 8 (bys magicB), by omega, by rw [List.take_zero, mbs_nil]; exact rs_sl, rfl, rfl, rfl, rfl, rfl⟩
      · intro k ρ B hI
        obtain ⟨i, a6, c6, X, hp0, hp1, hkk1, hE6, hE8, hE7, rfl⟩ := hI
        refine tc_env (d := 6) hE6 ?_
        refine tc_env (d := 8) hE8 ?_
        refine tc_env (d := 7) hE7 ?_
        clear hE6 hE8 hE7
        refine tc_seq ?_
        refine tc_seq ?_
        refine tc_reg ?_
        refine tlm ?_
        refine tlm ?_
        refine tl_v rfl (o_len Try.underlying37 rfl) ?_
        refine tl_v rfl (o_lss rfl rfl) ?_
        refine tl_nil ?_
        refine q_then_n ?_
        refine tc_cond rfl (fun h => ?_) (fun h => ?_)
        · have hi : i < 6 := by simp at h; omega
          obtain ⟨v, hv1, hv2, hv3⟩ : ∃ v : Nat, (ints [(n : Int), ((128 : Nat) : Int), ((32768 : Nat) : Int), ((32896 : Nat) : Int), (((n - 32896) / 256 : Nat) : Int), ((0 : Nat) : Int)])[i]? = some (.int .i64 (v : Int)) ∧ ([n, 128, 32768, 32896, (n - 32896) / 256, 0] : List Nat)[i]? = some v ∧ v < 9223372036854775808 := by
            match i, hi with
            | 0, _ => exact ⟨n, rfl, rfl, by omega⟩
            | 1, _ => exact ⟨128, rfl, rfl, by decide⟩
            | 2, _ => exact ⟨32768, rfl, rfl, by decide⟩
            | 3, _ => exact ⟨32896, rfl, rfl, by decide⟩
            | 4, _ => exact ⟨(n - 32896) / 256, rfl, rfl, by omega⟩
            | 5, _ => exact ⟨0, rfl, rfl, by decide⟩
          have hml : (mbs (([n, 128, 32768, 32896, (n - 32896) / 256, 0] : List Nat).take i)).length = 8 + 8 * i := by rw [mbs_len, List.length_take]; simp; omega
          refine tc_skip ?_
          refine q_then_n ?_
          refine tc_seq ?_
          refine tc_block ?_
          refine tc_reg ?_
          refine tlm ?_
          refine tlm ?_
          refine tlm ?_
          refine tl_v rfl (o_ixP1 (a := some ⟨b33, 0, none⟩) Try.underlying37 sz3 rfl rfl (by omega) nn_some) ?_
          refine tl_v rfl (o_ldP (a := some ⟨b33, 0, none⟩) p3 rfl rs_pt0.left hv1) ?_
          refine tl_v rfl (by first | exact o_conv64 Try.underlying3 Try.underlying53 rfl | exact o_conv Try.underlying3 Try.underlying53 rfl) ?_
          refine tl_env (d := 45) (v := .int .u64 ((v : Nat) : Int)) (congrArg (fun z : Nat => Value.int .u64 (z : Int)) (Nat.mod_eq_of_lt (by omega))) ?_
          refine tl_c rfl (o_call bd74 rfl (Little_c (v := v) (n := 8))) ?_
          rintro _ _ ⟨a46, c46, rfl, hc46, rfl⟩
          refine tl_c rfl (o_call bd73 rfl (Two_c (h1 := hp1.left) (h2 := rs_sl) (e1 := hml) (e2 := le_length 8 v) (hl := by omega))) ?_
          rintro _ _ ⟨a47, c47, rfl, hc47, rfl⟩
          refine tla ?_
          refine tl_nil ?_
          refine q_block_n (q_then_n ?_)
          refine tc_reg ?_
          refine tlm ?_
          refine tl_v rfl (by first | exact o_addI rfl rfl (by omega) | exact o_add rfl rfl) ?_
          refine tla ?_
          refine tl_nil ?_
          refine q_then_n ?_
          exact ⟨_, by omega, i + 1, _, _, X * Sl 1 (.slice a46 8 c46) 8 (bys (le 8 v)) * Sl 1 (.slice a47 (8 + 8 * i + 8) c47) (8 + 8 * i + 8) (bys (mbs (([n, 128, 32768, 32896, (n - 32896) / 256, 0] : List Nat).take i) ++ le 8 v)), by omega, by rw [mbs_take hv2, ← star_assoc, ← star_assoc]; exact rs_sl, rfl, rfl, rfl, rfl, (by rw [← star_assoc, ← star_assoc])⟩
        · obtain rfl : i = 6 := by simp at h; omega
          rw [show ([n, 128, 32768, 32896, (n - 32896) / 256, 0] : List Nat).take 6 = [n, 128, 32768, 32896, (n - 32896) / 256, 0] from rfl] at hp1
          have hml : (mbs [n, 128, 32768, 32896, (n - 32896) / 256, 0]).length = 56 := mbs_len _
          have hmb := mbs_lt [n, 128, 32768, 32896, (n - 32896) / 256, 0]
          have hcc := crc_lt (s := 0) (by decide) hmb
          refine tc_exit ?_
          refine q_then_e (q_then_e (q_block_x (q_then_n ?_)))
          refine tc_seq ?_
          refine tc_reg ?_
          refine tlm ?_
          refine tlm ?_
          refine tl_c rfl (o_call bd85 rfl (SumR_c (hr := hp1) (hm := hml) (hb := hmb) (hl := by decide))) ?_
          rintro _ _ ⟨rfl, rfl⟩
          refine tl_v rfl (by first | exact o_conv64 Try.underlying114 Try.underlying53 rfl | exact o_conv Try.underlying114 Try.underlying53 rfl) ?_
          refine tl_env (d := 51) (v := .int .u64 ((crc 0 (mbs [n, 128, 32768, 32896, (n - 32896) / 256, 0]) : Nat) : Int)) (congrArg (fun z : Nat => Value.int .u64 (z : Int)) (Nat.mod_eq_of_lt (by omega))) ?_
          refine tl_c rfl (o_call bd74 rfl (Little_c (v := crc 0 (mbs [n, 128, 32768, 32896, (n - 32896) / 256, 0])) (n := 8))) ?_
          rintro _ _ ⟨a52, c52, rfl, hc52, rfl⟩
          refine tl_c rfl (o_call bd73 rfl (Two_c (h1 := hp1.left) (h2 := rs_sl) (e1 := hml) (e2 := le_length 8 _) (hl := by omega))) ?_
          rintro _ _ ⟨a53, c53, rfl, hc53, rfl⟩
          refine tla ?_
          refine tla ?_
          refine tl_nil ?_
          refine q_then_n ?_
          refine tc_ret ?_
          exact ⟨.tuple #[.slice a53 64 c53, .int .i64 0], A * Sl 1 (.slice a53 64 c53) 64 (bys (sbB [n, 128, 32768, 32896, (n - 32896) / 256, 0])), res2 rfl rfl rfl, fun _ _ h => by rw [sbB_def]; exact Dr.sat (by repeat (first | with_reducible exact dr_refl | apply dr_keep | apply dr_drop)) _ _ h, a53, c53, rfl, hc53, rfl⟩
set_option maxRecDepth 20000 in
set_option maxHeartbeats 1000000 in
theorem LineR_no {A : SP} {i0 i1 i2 i3 i4 : Int} (hn : planT i0 ≠ ([i0, i1, i2, i3, i4], 0)) :
    Fn Try.prog 21 #[.agg (ints [i0, i1, i2, i3, i4]).toArray] (A) (fun r B => r = .tuple #[.slice none 0 0, .int .i64 100] ∧ A = B) := by
  refine fn_enterW (args := [.agg (ints [i0, i1, i2, i3, i4]).toArray]) Try.func21 rfl Try.ntmps21 (by simp) ?_
  refine tc_seq ?_
  refine tc_reg ?_
  refine tl_x rfl (o_box rfl rfl) ?_
  rintro _ _ ⟨b1, rfl, rfl⟩
  refine tla ?_
  refine tla ?_
  refine tl_nil ?_
  refine q_then_n ?_
  refine tc_seq ?_
  refine tc_reg ?_
  refine tl_v rfl (o_fieldAddr (o := 0) Try.underlying23 rfl rfl sz3 rfl) ?_
  refine tl_v rfl (by first | exact o_load p3 rfl (by repeat (first | with_reducible exact has_here | with_reducible exact has_pt | apply has_left)) rfl | exact o_loadC p3 rfl (by assumption)) ?_
  refine tl_c rfl (o_call bd19 rfl (PlanR_c)) ?_
  rintro _ _ ⟨rfl, rfl⟩
  refine tlm ?_
  refine tl_v rfl (o_extract rfl rfl) ?_
  refine tl_v rfl (o_extract rfl rfl) ?_
  refine tl_x rfl (o_alloc z23 rfl) ?_
  rintro _ _ ⟨b4, rfl, rfl⟩
  refine tl_u rfl (o_stUN (l' := ints (planT i0).1) rfl (by repeat (first | with_reducible exact upd_here | with_reducible exact upd_pt | apply upd_left)) sz23 rfl (by rw [ints_length, planT_len]) (ints_all _) (by simp) (splice_whole (by rw [ints_length, planT_len]; rfl))) ?_
  refine tla ?_
  refine tl_nil ?_
  refine q_then_n ?_
  refine tc_seq ?_
  refine tc_seq ?_
  refine tc_reg ?_
  refine tlm ?_
  refine tl_v rfl (o_nei rfl rfl) ?_
  refine tlm ?_
  refine tl_bool (d := 17) rfl (fun h => ?_) (fun h => ?_)
  · try simp only [lv1, lv2, lv3, lv4, lv5, lv6, Bool.not_true, Bool.not_false] at h
    refine tl_skip rfl ?_
    refine tl_skip rfl ?_
    refine tl_skip rfl ?_
    refine tl_v rfl (o_pick_t rfl (by conv => lhs; whnf)) ?_
    refine tl_nil ?_
    refine q_then_n ?_
    refine tc_cond_t rfl ?_
    refine tc_seq ?_
    refine tc_reg ?_
    refine tla ?_
    refine tla ?_
    refine tl_nil ?_
    refine q_then_n ?_
    refine tc_ret ?_
    refine q_then_r ?_
    exact ⟨.tuple #[.slice none 0 0, .int .i64 100], A, res2 rfl rfl rfl, Dr.sat (by repeat (first | with_reducible exact dr_refl | apply dr_keep | apply dr_drop)), rfl, rfl⟩
  · try simp only [lv1, lv2, lv3, lv4, lv5, lv6, Bool.not_true, Bool.not_false] at h
    refine tl_v rfl (o_loadN (vs := ints (planT i0).1) a23 sz23 rfl (by repeat (first | with_reducible exact has_here | with_reducible exact has_pt | apply has_left)) (by rw [ints_length, planT_len]; decide) (by rw [List.drop_zero]; exact List.take_of_length_le (by rw [ints_length, planT_len]; decide))) ?_
    refine tl_v rfl (o_loadN (vs := ints [i0, i1, i2, i3, i4]) a23 sz23 rfl (by repeat (first | with_reducible exact has_here | with_reducible exact has_pt | apply has_left)) (by show 5 ≤ 5; decide) rfl) ?_
    refine tl_v rfl (o_nest (k := 5) (l := (planT i0).1) (m := [i0, i1, i2, i3, i4]) Try.underlying23 (by kernel_rfl) (by kernel_rfl) (by kernel_rfl) rfl rfl (planT_len _) rfl) ?_
    refine tl_v rfl (o_pick_f rfl (by conv => lhs; whnf)) ?_
    refine tl_nil ?_
    refine q_then_n ?_
    refine tc_cond rfl (fun h => ?_) (fun h => ?_)
    · try simp only [lv1, lv2, lv3, lv4, lv5, lv6, Bool.not_true, Bool.not_false] at h
      refine tc_seq ?_
      refine tc_reg ?_
      refine tla ?_
      refine tla ?_
      refine tl_nil ?_
      refine q_then_n ?_
      refine tc_ret ?_
      refine q_then_r ?_
      exact ⟨.tuple #[.slice none 0 0, .int .i64 100], A, res2 rfl rfl rfl, Dr.sat (by repeat (first | with_reducible exact dr_refl | apply dr_keep | apply dr_drop)), rfl, rfl⟩
    · exfalso; rename_i h0; apply hn; simp at h; exact Prod.ext h (by simpa using h0)
end Go.Vl

set_option linter.unusedVariables false
set_option linter.unusedSimpArgs false
namespace Go.Vl
open Go Go.Proofs
theorem sbB_head (n : Nat) (ns : List Nat) : ∃ r, sbB (n :: ns) = magicB ++ (n % 256 :: n / 256 % 256 :: r) := by
  unfold sbB mbs
  rw [List.flatMap_cons]
  have e : le 8 n = n % 256 :: n / 256 % 256 :: le 6 (n / 256 / 256) := rfl
  rw [e]
  exact ⟨_, by simp only [List.append_assoc, List.cons_append]; rfl⟩
theorem sob_magic : Value.bool ((sob magicB).toList == (⟨#[86, 69, 76, 76, 85, 77, 48, 49]⟩ : ByteArray).toList) = .bool true := by
  rw [show sob magicB = (⟨#[86, 69, 76, 76, 85, 77, 48, 49]⟩ : ByteArray) from rfl, beq_self_eq_true]
theorem Plan_w {A : SP} : Fn Try.prog 18 #[.int .i64 36992] A (fun r B => r = .tuple #[.agg (ints [(36992 : Int), ((128 : Nat) : Int), ((32768 : Nat) : Int), ((32896 : Nat) : Int), ((16 : Nat) : Int)]).toArray, .int .i64 0] ∧ A = B) := Plan_ok (n := 36992) (by decide)
theorem Line_w {A : SP} : Fn Try.prog 20 #[.agg (ints [(36992 : Int), ((128 : Nat) : Int), ((32768 : Nat) : Int), ((32896 : Nat) : Int), ((16 : Nat) : Int)]).toArray] A (fun r B => ∃ a c, r = .tuple #[.slice a 64 c, .int .i64 0] ∧ 64 ≤ c ∧ B = A * Sl 1 (.slice a 64 c) 64 (bys (sbB [36992, 128, 32768, 32896, 16, 0]))) := Line_ok (n := 36992) (by decide)
attribute [local irreducible] crk crL crc Sl pt ro planT mbs sbB
set_option maxRecDepth 20000 in
set_option maxHeartbeats 1000000 in
theorem works_c {A : SP} :
    Fn Try.prog 24 #[] (A) (fun r B => r = .bool true ∧ A = B) := by
  refine fn_enterW (args := []) Try.func24 rfl Try.ntmps24 (by simp) ?_
  refine tc_seq ?_
  refine tc_reg ?_
  refine tla ?_
  refine tl_nil ?_
  refine q_then_n ?_
  refine tc_seq ?_
  refine tc_reg ?_
  refine tl_c rfl (o_call bd18 rfl (Plan_w)) ?_
  rintro _ _ ⟨rfl, rfl⟩
  refine tlm ?_
  refine tl_v rfl (o_extract rfl rfl) ?_
  refine tl_v rfl (o_extract rfl rfl) ?_
  refine tl_x rfl (o_alloc z23 rfl) ?_
  rintro _ _ ⟨b1, rfl, rfl⟩
  refine tl_u rfl (o_stUN (l' := ints [(36992 : Int), ((128 : Nat) : Int), ((32768 : Nat) : Int), ((32896 : Nat) : Int), ((16 : Nat) : Int)]) rfl (by repeat (first | with_reducible exact upd_here | with_reducible exact upd_pt | apply upd_left)) sz23 rfl rfl rfl (by simp) rfl) ?_
  refine tla ?_
  refine tl_nil ?_
  refine q_then_n ?_
  refine tc_seq ?_
  refine tc_reg ?_
  refine tl_v rfl (o_loadN (vs := ints [(36992 : Int), ((128 : Nat) : Int), ((32768 : Nat) : Int), ((32896 : Nat) : Int), ((16 : Nat) : Int)]) a23 sz23 rfl (by repeat (first | with_reducible exact has_here | with_reducible exact has_pt | apply has_left)) (by show 5 ≤ 5; decide) rfl) ?_
  refine tl_c rfl (o_call bd20 rfl (Line_w)) ?_
  rintro _ _ ⟨a11, c11, rfl, hc11, rfl⟩
  obtain ⟨rr, hrr⟩ := sbB_head 36992 [128, 32768, 32896, 16, 0]
  have hlen := sbB_len (ns := [36992, 128, 32768, 32896, 16, 0]) rfl
  have hrs : Rs (A * pt b1 (cl (ints [(36992 : Int), ((128 : Nat) : Int), ((32768 : Nat) : Int), ((32896 : Nat) : Int), ((16 : Nat) : Int)]) 23) * Sl 1 (.slice a11 64 c11) 64 (bys (sbB [36992, 128, 32768, 32896, 16, 0]))) a11 (bys (sbB [36992, 128, 32768, 32896, 16, 0])) := rs_sl
  have e8 : (bys (sbB [36992, 128, 32768, 32896, 16, 0])).take 8 = bys magicB := by rw [hrr, bys_append]; rfl
  have h8 := (rs_cut (cap := c11) (l := 0) (k := 1) hrs (by rw [bys_length, hlen]; omega)).sub 8
  rw [Nat.zero_mul, List.drop_zero, e8] at h8
  refine tlm ?_
  refine tl_v rfl (o_extract rfl rfl) ?_
  refine tl_v rfl (o_extract rfl rfl) ?_
  refine tla ?_
  refine tla ?_
  refine tl_nil ?_
  refine q_then_n ?_
  refine tc_seq ?_
  refine tc_reg ?_
  refine tlm ?_
  refine tl_v rfl (o_eqi rfl rfl) ?_
  refine tlm ?_
  refine tl_bool (d := 16) rfl (fun h => ?_) (fun h => ?_)
  · try simp only [lv1, lv2, lv3, lv4, lv5, lv6, Bool.not_true, Bool.not_false] at h
    refine tlm ?_
    refine tl_v rfl (o_eqi rfl rfl) ?_
    refine tl_v rfl (o_pick_t rfl (by conv => lhs; whnf)) ?_
    refine tlm ?_
    refine tl_bool (d := 20) rfl (fun h => ?_) (fun h => ?_)
    · try simp only [lv1, lv2, lv3, lv4, lv5, lv6, Bool.not_true, Bool.not_false] at h
      refine tl_v rfl (o_loadN (vs := ints [(36992 : Int), ((128 : Nat) : Int), ((32768 : Nat) : Int), ((32896 : Nat) : Int), ((16 : Nat) : Int)]) a23 sz23 rfl (by repeat (first | with_reducible exact has_here | with_reducible exact has_pt | apply has_left)) (by show 5 ≤ 5; decide) rfl) ?_
      refine tl_v rfl (o_bS (l := ints [(36992 : Int), ((128 : Nat) : Int), ((32768 : Nat) : Int), ((32896 : Nat) : Int), ((16 : Nat) : Int)]) (pv_cons (by conv => lhs; whnf) (pv_cons (by conv => lhs; whnf) (pv_cons (by conv => lhs; whnf) (pv_cons (by conv => lhs; whnf) (pv_cons (by conv => lhs; whnf) pv_nil))))) Try.underlying23 z23 (pl23 Try.underlying23) rfl) ?_
      refine tl_v rfl (o_eqst (k := 5) (l := [(36992 : Int), ((128 : Nat) : Int), ((32768 : Nat) : Int), ((32896 : Nat) : Int), ((16 : Nat) : Int)]) (m := [(36992 : Int), ((128 : Nat) : Int), ((32768 : Nat) : Int), ((32896 : Nat) : Int), ((16 : Nat) : Int)]) Try.underlying23 (by kernel_rfl) (by kernel_rfl) (by kernel_rfl) rfl rfl rfl rfl) ?_
      refine tl_v rfl (o_pick_t rfl (by conv => lhs; whnf)) ?_
      refine tlm ?_
      refine tl_bool (d := 25) rfl (fun h => ?_) (fun h => ?_)
      · try simp only [lv1, lv2, lv3, lv4, lv5, lv6, Bool.not_true, Bool.not_false] at h
        refine tlm ?_
        refine tl_v rfl (o_len Try.underlying28 rfl) ?_
        refine tl_v rfl (o_eqi rfl rfl) ?_
        refine tl_v rfl (o_pick_t rfl (by conv => lhs; whnf)) ?_
        refine tlm ?_
        refine tl_bool (d := 30) rfl (fun h => ?_) (fun h => ?_)
        · try simp only [lv1, lv2, lv3, lv4, lv5, lv6, Bool.not_true, Bool.not_false] at h
          refine tlm ?_
          refine tl_v rfl (o_slice Try.underlying28 sz5 rfl bnd_none (bnd_some rfl (by omega)) (by omega) (by omega)) ?_
          refine tl_v rfl (o_b2s (xs := magicB) Try.underlying28 Try.underlying5 Try.underlying9 rfl h8 rfl (by decide)) ?_
          refine tl_v rfl ((o_eqstr rfl rfl).cast sob_magic) ?_
          refine tl_v rfl (o_pick_t rfl (by conv => lhs; whnf)) ?_
          refine tlm ?_
          refine tl_bool (d := 36) rfl (fun h => ?_) (fun h => ?_)
          · try simp only [lv1, lv2, lv3, lv4, lv5, lv6, Bool.not_true, Bool.not_false] at h
            refine tlm ?_
            refine tl_v rfl (o_ixP1 (j := 8) Try.underlying28 sz5 rfl rfl (by decide) (nn_rs hrs (fun _ => by rw [bys_length, hlen]; decide))) ?_
            refine tl_v rfl (o_ldP (v := .int .u8 128) p5 rfl hrs (by rw [hrr]; rfl)) ?_
            refine tl_v rfl (o_eqi rfl rfl) ?_
            refine tl_v rfl (o_pick_t rfl (by conv => lhs; whnf)) ?_
            refine tlm ?_
            refine tl_bool (d := 42) rfl (fun h => ?_) (fun h => ?_)
            · try simp only [lv1, lv2, lv3, lv4, lv5, lv6, Bool.not_true, Bool.not_false] at h
              refine tlm ?_
              refine tl_v rfl (o_ixP1 (j := 9) Try.underlying28 sz5 rfl rfl (by decide) (nn_rs hrs (fun _ => by rw [bys_length, hlen]; decide))) ?_
              refine tl_v rfl (o_ldP (v := .int .u8 144) p5 rfl hrs (by rw [hrr]; rfl)) ?_
              refine tl_v rfl (o_eqi rfl rfl) ?_
              refine tl_v rfl (o_pick_t rfl (by conv => lhs; whnf)) ?_
              refine tla ?_
              refine tl_nil ?_
              refine q_then_n ?_
              refine tc_ret ?_
              exact ⟨.bool true, A, res1 rfl rfl, Dr.sat (by repeat (first | with_reducible exact dr_refl | apply dr_keep | apply dr_drop)), rfl, rfl⟩
            · (exfalso; first | (revert h; simp; done) | (simp at h; done) | (revert h; simp; omega) | (simp at h; omega) | omega)
          · (exfalso; first | (revert h; simp; done) | (simp at h; done) | (revert h; simp; omega) | (simp at h; omega) | omega)
        · (exfalso; first | (revert h; simp; done) | (simp at h; done) | (revert h; simp; omega) | (simp at h; omega) | omega)
      · (exfalso; first | (revert h; simp; done) | (simp at h; done) | (revert h; simp; omega) | (simp at h; omega) | omega)
    · (exfalso; first | (revert h; simp; done) | (simp at h; done) | (revert h; simp; omega) | (simp at h; omega) | omega)
  · (exfalso; first | (revert h; simp; done) | (simp at h; done) | (revert h; simp; omega) | (simp at h; omega) | omega)
end Go.Vl

set_option linter.unusedVariables false
set_option linter.unusedSimpArgs false
namespace Go.Vl
open Go Go.Proofs
def lineT (q0 q1 q2 q3 q4 : Int) : List Nat × Int := if planT q0 = ([q0, q1, q2, q3, q4], 0) then (sbB [q0.toNat, 128, 32768, 32896, (q0.toNat - 32896) / 256, 0], 0) else ([], 100)
theorem lineT_t {q0 q1 q2 q3 q4 : Int} (h : planT q0 = ([q0, q1, q2, q3, q4], 0)) : lineT q0 q1 q2 q3 q4 = (sbB [q0.toNat, 128, 32768, 32896, (q0.toNat - 32896) / 256, 0], 0) := if_pos h
theorem lineT_f {q0 q1 q2 q3 q4 : Int} (h : planT q0 ≠ ([q0, q1, q2, q3, q4], 0)) : lineT q0 q1 q2 q3 q4 = ([], 100) := if_neg h
theorem planT_inv {q0 q1 q2 q3 q4 : Int} (h : planT q0 = ([q0, q1, q2, q3, q4], 0)) : ∃ n : Nat, (36992 ≤ n ∧ n ≤ 4194304 ∧ n % 64 = 0) ∧ q0 = (n : Int) ∧ q1 = ((128 : Nat) : Int) ∧ q2 = ((32768 : Nat) : Int) ∧ q3 = ((32896 : Nat) : Int) ∧ q4 = (((n - 32896) / 256 : Nat) : Int) := by
  unfold planT at h
  split at h
  · rename_i hc
    unfold planL at h
    simp only [Prod.mk.injEq, List.cons.injEq, and_true, true_and] at h
    refine ⟨q0.toNat, ?_, ?_, ?_, ?_, ?_, ?_⟩ <;> omega
  · simp at h
theorem LineR_u {A : SP} {q0 q1 q2 q3 q4 : Int} : Fn Try.prog 21 #[.agg (ints [q0, q1, q2, q3, q4]).toArray] A (fun r B => ∃ a c, r = .tuple #[.slice a (lineT q0 q1 q2 q3 q4).1.length c, .int .i64 (lineT q0 q1 q2 q3 q4).2] ∧ (lineT q0 q1 q2 q3 q4).1.length ≤ c ∧ B = A * Sl 1 (.slice a (lineT q0 q1 q2 q3 q4).1.length c) (lineT q0 q1 q2 q3 q4).1.length (bys (lineT q0 q1 q2 q3 q4).1)) := by
  by_cases h : planT q0 = ([q0, q1, q2, q3, q4], 0)
  · rw [lineT_t h]
    obtain ⟨n, hn, rfl, rfl, rfl, rfl, rfl⟩ := planT_inv h
    rw [Int.toNat_natCast, sbB_len rfl]
    exact LineR_ok hn
  · rw [lineT_f h]
    intro g w hs
    refine (LineR_no h g w hs).mono ?_
    rintro e w' ⟨v, B, rfl, ⟨rfl, rfl⟩, hB⟩
    exact ⟨_, _, rfl, ⟨none, 0, rfl, Nat.le_refl 0, rfl⟩, sl_nil hB⟩
end Go.Vl

set_option linter.unusedVariables false
set_option linter.unusedSimpArgs false
namespace Go.Vl
open Go Go.Proofs
def stE (s : DevS) : Int := if s.off = true then 5 else 0
theorem stE_rdy (s : DevS) (h : s.off = true) : rdy s.ls.length s.off 0 0 = 5 := by unfold rdy; rw [if_pos h]
theorem Load0_c {A R : SP} {C : SP → SP} {d : Nat} {s : DevS} (hc : Ct A (Dev d s) R C) : Fn Try.prog 27 #[.pointer (some ⟨d, 0, none⟩), .int .i64 0, .int .i64 0] A (fun r B => ∃ v : Value, r = .tuple #[v, .int .i64 (stE s)] ∧ A = B) := by
  by_cases h : s.off = true
  · have e : stE s = 5 := if_pos h
    have := LoadNo_c hc (p := 0) (m := 0) (by omega) (by omega) (by rw [stE_rdy s h]; decide)
    rw [stE_rdy s h] at this
    rw [e]
    exact this.mono fun _ _ ⟨h1, h2⟩ => ⟨_, h1, h2⟩
  · have e : stE s = 0 := if_neg h
    rw [e]
    intro g w hs
    refine (Load_c hc (p := 0) (m := 0) (by simpa using h) (by omega) g w hs).mono ?_
    rintro e w' ⟨v, B, rfl, ⟨a, c, rfl, _, rfl⟩, hB⟩
    exact ⟨_, _, rfl, ⟨_, rfl, rfl⟩, hB.left⟩
attribute [local irreducible] crk crL crc Sl pt ro mbs sbB planT Dev
theorem alive_c {A R : SP} {C : SP → SP} {d : Nat} {s : DevS} (hc : Ct A (Dev d s) R C := by repeat (first | with_reducible exact ct_here | apply ct_left)) :
    Fn Try.prog 119 #[.pointer (some ⟨d, 0, none⟩)] (A) (fun r B => r = .int .i64 (stE s) ∧ A = B) := by
  refine fn_enterW (args := [.pointer (some ⟨d, 0, none⟩)]) Try.func119 rfl Try.ntmps119 (by simp) ?_
  refine tc_seq ?_
  refine tc_reg ?_
  refine tla ?_
  refine tl_nil ?_
  refine q_then_n ?_
  refine tc_seq ?_
  refine tc_reg ?_
  refine tlm ?_
  refine tl_c rfl (o_call bd27 rfl (Load0_c hc)) ?_
  rintro _ _ ⟨v7, rfl, rfl⟩
  refine tlm ?_
  refine tl_v rfl (o_extract rfl rfl) ?_
  refine tl_v rfl (o_extract rfl rfl) ?_
  refine tla ?_
  refine tla ?_
  refine tl_nil ?_
  refine q_then_n ?_
  refine tc_seq ?_
  refine tc_reg ?_
  refine tlm ?_
  refine tla ?_
  refine tl_nil ?_
  refine q_then_n ?_
  refine tc_ret ?_
  exact ⟨.int .i64 (stE s), A, res1 rfl rfl, fun _ _ h => h, rfl, rfl⟩
theorem Range0_c {A R : SP} {C : SP → SP} {d : Nat} {s : DevS} (hc : Ct A (Dev d s) R C := by repeat (first | with_reducible exact ct_here | apply ct_left)) {at_ : Int} :
    Fn Try.prog 60 #[.pointer (some ⟨d, 0, none⟩), .int .i64 at_, .int .i64 0] (A) (fun r B => r = .int .i64 (stE s) ∧ A = B) := by
  refine fn_enterW (args := [.pointer (some ⟨d, 0, none⟩), .int .i64 at_, .int .i64 0]) Try.func60 rfl Try.ntmps60 (by simp) ?_
  refine tc_seq ?_
  refine tc_reg ?_
  refine tla ?_
  refine tl_nil ?_
  refine q_then_n ?_
  refine tc_seq ?_
  refine tc_seq ?_
  refine tc_reg ?_
  refine tlm ?_
  refine tl_c rfl (o_call bd119 rfl (alive_c hc)) ?_
  rintro _ _ ⟨rfl, rfl⟩
  refine tla ?_
  refine tl_nil ?_
  refine q_then_n ?_
  refine tc_seq ?_
  refine tc_reg ?_
  refine tlm ?_
  refine tl_v rfl (o_nei rfl rfl) ?_
  refine tl_nil ?_
  refine q_then_n ?_
  refine tc_cond rfl (fun h => ?_) (fun h => ?_)
  · try simp only [lv1, lv2, lv3, lv4, lv5, lv6, Bool.not_true, Bool.not_false] at h
    refine tc_seq ?_
    refine tc_reg ?_
    refine tlm ?_
    refine tla ?_
    refine tl_nil ?_
    refine q_then_n ?_
    refine tc_ret ?_
    refine q_then_r ?_
    first | exact ⟨.int .i64 (stE s), A, res1 rfl rfl, fun _ _ h => h, rfl, rfl⟩ | exact ⟨.int .i64 0, A, res1 rfl rfl, fun _ _ h => h, by rw [h0], rfl⟩
  · have h0 : stE s = 0 := by simpa using h
    refine tc_skip ?_
    refine q_then_n ?_
    refine tc_seq ?_
    refine tc_seq ?_
    refine tc_reg ?_
    refine tlm ?_
    refine tl_v rfl (o_lss rfl rfl) ?_
    refine tl_nil ?_
    refine q_then_n ?_
    refine tc_cond rfl (fun h => ?_) (fun h => ?_)
    · try simp only [lv1, lv2, lv3, lv4, lv5, lv6, Bool.not_true, Bool.not_false] at h
      refine tc_seq ?_
      refine tc_reg ?_
      refine tla ?_
      refine tl_nil ?_
      refine q_then_n ?_
      refine tc_ret ?_
      refine q_then_r ?_
      first | exact ⟨.int .i64 (stE s), A, res1 rfl rfl, fun _ _ h => h, rfl, rfl⟩ | exact ⟨.int .i64 0, A, res1 rfl rfl, fun _ _ h => h, by rw [h0], rfl⟩
    · (exfalso; first | (revert h; simp; done) | (simp at h; done) | (revert h; simp; omega) | (simp at h; omega) | omega)
theorem state_c {A R : SP} {C : SP → SP} {d : Nat} {s : DevS} (hc : Ct A (Dev d s) R C := by repeat (first | with_reducible exact ct_here | apply ct_left)) :
    Fn Try.prog 102 #[.pointer (some ⟨d, 0, none⟩)] (A) (fun r B => r = .int .i64 (stE s) ∧ A = B) := by
  refine fn_enterW (args := [.pointer (some ⟨d, 0, none⟩)]) Try.func102 rfl Try.ntmps102 (by simp) ?_
  refine tc_seq ?_
  refine tc_reg ?_
  refine tla ?_
  refine tl_nil ?_
  refine q_then_n ?_
  refine tc_seq ?_
  refine tc_reg ?_
  refine tlm ?_
  refine tl_c rfl (o_call bd60 rfl (Range0_c hc)) ?_
  rintro _ _ ⟨rfl, rfl⟩
  refine tla ?_
  refine tl_nil ?_
  refine q_then_n ?_
  refine tc_ret ?_
  exact ⟨.int .i64 (stE s), A, res1 rfl rfl, fun _ _ h => h, rfl, rfl⟩
end Go.Vl

set_option linter.unusedVariables false
set_option linter.unusedSimpArgs false
namespace Go.Vl
open Go Go.Proofs
theorem bys_eq (s : List Nat) : bys s = (s.map fun n : Nat => (n : Int)).map (Value.int .u8) := by rw [bys, List.map_map]; rfl
section
variable {P : Program} {n : Nat} {ρ : Env} {dst : Option Nat} {ty : TypeId} {pos : String} {after : Array Edge} {gd : Option (Nat × Bool)} {A : SP}
theorem o_nearrB {t t' e : TypeId} {x y : Operand} {len : Nat} {xs ys : List Nat} (hu : P.underlying t = some (.array len e)) (hk : szE P e = some 1) (he : P.underlying e = some (.int .u8)) (hp : plainE P e = true)
    (hge : P.eqGuardType P.depth t = false) (hx : ev n ρ x = .agg (bys xs).toArray) (hy : ev n ρ y = .agg (bys ys).toArray) (h1 : xs.length = len) (h2 : ys.length = len) :
    OpV P n ρ A ⟨dst, .binOp .neq t x y t', ty, pos, after, gd⟩ (.bool (!decide (xs = ys))) := by
  have := o_nearr (A := A) (dst := dst) (ty := ty) (pos := pos) (after := after) (gd := gd) (t' := t') hu hk he hp hge (by rw [hx, bys_eq]) (by rw [hy, bys_eq]) (by rw [List.length_map, h1]) (by rw [List.length_map, h2])
  rwa [show decide ((xs.map fun n : Nat => (n : Int)) = (ys.map fun n : Nat => (n : Int))) = decide (xs = ys) from by simp only [map_inj]] at this
end
def rdT (n : Nat) (I : List Nat) : List Int × Int := if I.take 64 = sbB [n, 128, 32768, 32896, (n - 32896) / 256, 0] then ([(n : Int), ((128 : Nat) : Int), ((32768 : Nat) : Int), ((32896 : Nat) : Int), (((n - 32896) / 256 : Nat) : Int)], 0) else ([0, 0, 0, 0, 0], 100)
theorem rdT_t {n : Nat} {I : List Nat} (h : I.take 64 = sbB [n, 128, 32768, 32896, (n - 32896) / 256, 0]) : rdT n I = ([(n : Int), ((128 : Nat) : Int), ((32768 : Nat) : Int), ((32896 : Nat) : Int), (((n - 32896) / 256 : Nat) : Int)], 0) := if_pos h
theorem rdT_f {n : Nat} {I : List Nat} (h : I.take 64 ≠ sbB [n, 128, 32768, 32896, (n - 32896) / 256, 0]) : rdT n I = ([0, 0, 0, 0, 0], 100) := if_neg h
attribute [local irreducible] crk crL crc Sl pt ro mbs sbB planT Dev imgS
set_option maxRecDepth 20000 in
set_option maxHeartbeats 1000000 in
theorem Read_ok {A R : SP} {C : SP → SP} {d : Nat} {s : DevS} (hc : Ct A (Dev d s) R C := by repeat (first | with_reducible exact ct_here | apply ct_left)) {n : Nat} (hoff : s.off = false) (hlen : s.ls.length * 64 = n) (hn : 36992 ≤ n ∧ n ≤ 4194304 ∧ n % 64 = 0) (hil : (imgS s).length = n) :
    Fn Try.prog 48 #[.pointer (some ⟨d, 0, none⟩)] (A) (fun r B => r = .tuple #[.agg (ints (rdT n (imgS s)).1).toArray, .int .i64 (rdT n (imgS s)).2] ∧ A = B) := by
  refine fn_enterW (args := [.pointer (some ⟨d, 0, none⟩)]) Try.func48 rfl Try.ntmps48 (by simp) ?_
  have hst : stE s = 0 := by unfold stE; rw [hoff]; rfl
  obtain ⟨rfl, hC⟩ := hc
  refine tc_seq ?_
  refine tc_reg ?_
  refine tl_x rfl (o_alloc z23 rfl) ?_
  rintro _ _ ⟨b2, rfl, rfl⟩
  refine tla ?_
  refine tl_nil ?_
  refine q_then_n ?_
  refine tc_seq ?_
  refine tc_seq ?_
  refine tc_reg ?_
  refine tlm ?_
  refine tl_c rfl (o_call bd102 rfl (state_c (s := s))) ?_
  rintro _ _ ⟨rfl, rfl⟩
  refine tl_env (d := 9) (v := .int .i64 0) (congrArg (Value.int .i64) hst) ?_
  refine tla ?_
  refine tl_nil ?_
  refine q_then_n ?_
  refine tc_seq ?_
  refine tc_reg ?_
  refine tlm ?_
  refine tl_v rfl (o_nei rfl rfl) ?_
  refine tl_nil ?_
  refine q_then_n ?_
  refine tc_cond rfl (fun h => ?_) (fun h => ?_)
  · exfalso; simp at h
  · try simp only [lv1, lv2, lv3, lv4, lv5, lv6, Bool.not_true, Bool.not_false] at h
    refine tc_skip ?_
    refine q_then_n ?_
    refine tc_seq ?_
    refine tc_reg ?_
    refine tlm ?_
    refine tl_c rfl (o_call bd94 rfl (Size_c (s := s))) ?_
    rintro _ _ ⟨rfl, rfl⟩
    refine tl_env (d := 16) (v := .int .i64 (n : Int)) (congrArg (Value.int .i64) (by omega)) ?_
    refine tl_c rfl (o_call bd18 rfl (Plan_ok hn)) ?_
    rintro _ _ ⟨rfl, rfl⟩
    refine tlm ?_
    refine tl_v rfl (o_extract rfl rfl) ?_
    refine tl_v rfl (o_extract rfl rfl) ?_
    refine tl_x rfl (o_alloc z23 rfl) ?_
    rintro _ _ ⟨b5, rfl, rfl⟩
    refine tl_u rfl (o_stUN (l' := ints [(n : Int), ((128 : Nat) : Int), ((32768 : Nat) : Int), ((32896 : Nat) : Int), (((n - 32896) / 256 : Nat) : Int)]) rfl (by repeat (first | with_reducible exact upd_here | with_reducible exact upd_pt | apply upd_left)) sz23 rfl rfl rfl (by simp) rfl) ?_
    refine tla ?_
    refine tl_nil ?_
    refine q_then_n ?_
    refine tc_seq ?_
    refine tc_seq ?_
    refine tc_reg ?_
    refine tlm ?_
    refine tl_v rfl (o_nei rfl rfl) ?_
    refine tl_nil ?_
    refine q_then_n ?_
    refine tc_cond rfl (fun h => ?_) (fun h => ?_)
    · exfalso; simp at h
    · try simp only [lv1, lv2, lv3, lv4, lv5, lv6, Bool.not_true, Bool.not_false] at h
      refine tc_skip ?_
      refine q_then_n ?_
      refine tc_seq ?_
      refine tc_reg ?_
      refine tlm ?_
      refine tl_c rfl (o_call bd27 rfl (Load_c (s := s) (p := 0) (m := 64) (hoff := hoff) (hpm := by omega))) ?_
      rintro _ _ ⟨a25, c25, rfl, hc25, rfl⟩
      refine tl_have (fun g w h => nn_sl (by decide) g w h (by decide)) fun ⟨b25, o25, e25⟩ => ?_
      subst e25
      have hI : ((imgS s).take 64).length = 64 := by rw [List.length_take]; omega
      refine tlm ?_
      refine tl_v rfl (o_extract rfl rfl) ?_
      refine tl_v rfl (o_extract rfl rfl) ?_
      refine tla ?_
      refine tla ?_
      refine tl_nil ?_
      refine q_then_n ?_
      refine tc_seq ?_
      refine tc_seq ?_
      refine tc_regh mo dr_refl ?_
      show TH _ _ _ _ _ 10 #[false, false, false, false, false, false, false, false, false, false] _ _
      refine th_take (i := 0) (listed' := #[true, false, false, false, false, false, false, false, false, false]) rfl (by kernel_rfl) (by kernel_rfl) (by kernel_rfl) rfl rfl (o_move (by conv => lhs; whnf)) ?_
      refine th_take (i := 1) (listed' := #[true, true, false, false, false, false, false, false, false, false]) rfl (by kernel_rfl) (by kernel_rfl) (by kernel_rfl) rfl rfl (o_nei rfl rfl) ?_
      refine th_take (i := 2) (listed' := #[true, true, true, false, false, false, false, false, false, false]) rfl (by kernel_rfl) (by kernel_rfl) (by kernel_rfl) rfl rfl (o_move (by conv => lhs; whnf)) ?_
      refine th_bool (d := 30) rfl (fun h => ?_) (fun h => ?_)
      · (exfalso; first | (revert h; simp; done) | (simp at h; done) | (revert h; simp; omega) | (simp at h; omega) | omega)
      · try simp only [lv1, lv2, lv3, lv4, lv5, lv6, Bool.not_true, Bool.not_false] at h
        refine th_take (i := 3) (listed' := #[true, true, true, true, false, false, false, false, false, false]) rfl (by kernel_rfl) (by kernel_rfl) (by kernel_rfl) rfl rfl (o_move (by conv => lhs; whnf)) ?_
        refine th_take (i := 4) (listed' := #[true, true, true, true, true, false, false, false, false, false]) rfl (by kernel_rfl) (by kernel_rfl) (by kernel_rfl) rfl rfl (o_s2a (m := 64) Try.underlying139 rfl (by decide)) ?_
        refine th_take (i := 5) (listed' := #[true, true, true, true, true, true, false, false, false, false]) rfl (by kernel_rfl) (by kernel_rfl) (by kernel_rfl) rfl rfl (o_ldPN (a := some ⟨b25, o25, none⟩) (i := 0) (vs := bys ((imgS s).take 64)) a139 sz139 rfl rs_sl (by rw [List.drop_zero, List.drop_zero]; exact List.take_of_length_le (by rw [bys_length, hI]; decide)) (by rw [bys_length, hI]) (by decide)) ?_
        refine th_take (i := 6) (listed' := #[true, true, true, true, true, true, true, false, false, false]) rfl (by kernel_rfl) (by kernel_rfl) (by kernel_rfl) rfl rfl (o_loadN (vs := ints [(n : Int), ((128 : Nat) : Int), ((32768 : Nat) : Int), ((32896 : Nat) : Int), (((n - 32896) / 256 : Nat) : Int)]) a23 sz23 rfl (by repeat (first | with_reducible exact has_here | with_reducible exact has_pt | apply has_left)) (by show 5 ≤ 5; decide) rfl) ?_
        refine th_one (i := 7) (by kernel_rfl) ?_
        refine oh_c (i := 7) (listed' := #[true, true, true, true, true, true, true, true, false, false]) rfl rfl rfl (o_call bd83 rfl (laid_c (by omega))) ?_
        rintro _ _ ⟨rfl, rfl⟩
        refine ⟨by repeat (first | with_reducible exact dr_refl | apply dr_keep | apply dr_drop), ?_⟩
        refine th_take (i := 8) (listed' := #[true, true, true, true, true, true, true, true, true, false]) rfl (by kernel_rfl) (by kernel_rfl) (by kernel_rfl) rfl rfl (o_nearrB (xs := (imgS s).take 64) (ys := sbB [n, 128, 32768, 32896, (n - 32896) / 256, 0]) Try.underlying139 sz5 Try.underlying5 p5 (by kernel_rfl) rfl rfl hI (sbB_len rfl)) ?_
        refine th_take (i := 9) (listed' := #[true, true, true, true, true, true, true, true, true, true]) rfl (by kernel_rfl) (by kernel_rfl) (by kernel_rfl) rfl rfl (o_pick_f rfl (by conv => lhs; whnf)) ?_
        refine th_done (by kernel_rfl) ?_
        refine q_then_n ?_
        refine tc_cond rfl (fun h => ?_) (fun h => ?_)
        · try simp only [lv1, lv2, lv3, lv4, lv5, lv6, Bool.not_true, Bool.not_false] at h
          refine tc_seq ?_
          refine tc_reg ?_
          refine tl_v rfl (o_bS (l := ints [0, 0, 0, 0, 0]) pv_nil Try.underlying23 z23 (pl23 Try.underlying23) rfl) ?_
          refine tl_u rfl (o_stUN (l' := ints [0, 0, 0, 0, 0]) rfl (by repeat (first | with_reducible exact upd_here | with_reducible exact upd_pt | apply upd_left)) sz23 rfl rfl rfl (by simp) rfl) ?_
          refine tla ?_
          refine tl_nil ?_
          refine q_then_n ?_
          refine tc_ret ?_
          refine q_then_r ?_
          first
          | (have hp := rdT_t (n := n) (I := imgS s) (by simpa using h); rw [hp]; exact ⟨.tuple #[.agg (ints [(n : Int), ((128 : Nat) : Int), ((32768 : Nat) : Int), ((32896 : Nat) : Int), (((n - 32896) / 256 : Nat) : Int)]).toArray, .int .i64 0], R * Dev d s, resA2 rfl (rv_cell a23 sz23 rfl (by repeat (first | with_reducible exact has_here | with_reducible exact has_pt | apply has_left)) (by show 5 ≤ 5; decide) rfl) (rv_tmp rfl), Dr.sat (by repeat (first | with_reducible exact dr_refl | apply dr_keep | apply dr_drop)), rfl, rfl⟩)
          | (have hp := rdT_f (n := n) (I := imgS s) (by simpa using h); rw [hp]; exact ⟨.tuple #[.agg (ints [0, 0, 0, 0, 0]).toArray, .int .i64 100], R * Dev d s, resA2 rfl (rv_cell a23 sz23 rfl (by repeat (first | with_reducible exact has_here | with_reducible exact has_pt | apply has_left)) (by show 5 ≤ 5; decide) rfl) (rv_tmp rfl), Dr.sat (by repeat (first | with_reducible exact dr_refl | apply dr_keep | apply dr_drop)), rfl, rfl⟩)
        · try simp only [lv1, lv2, lv3, lv4, lv5, lv6, Bool.not_true, Bool.not_false] at h
          refine tc_skip ?_
          refine q_then_n ?_
          refine tc_seq ?_
          refine tc_reg ?_
          refine tl_v rfl (o_loadN (vs := ints [(n : Int), ((128 : Nat) : Int), ((32768 : Nat) : Int), ((32896 : Nat) : Int), (((n - 32896) / 256 : Nat) : Int)]) a23 sz23 rfl (by repeat (first | with_reducible exact has_here | with_reducible exact has_pt | apply has_left)) (by show 5 ≤ 5; decide) rfl) ?_
          refine tl_u rfl (o_stUN (l' := ints [(n : Int), ((128 : Nat) : Int), ((32768 : Nat) : Int), ((32896 : Nat) : Int), (((n - 32896) / 256 : Nat) : Int)]) rfl (by repeat (first | with_reducible exact upd_here | with_reducible exact upd_pt | apply upd_left)) sz23 rfl rfl rfl (by simp) rfl) ?_
          refine tla ?_
          refine tl_nil ?_
          refine q_then_n ?_
          refine tc_ret ?_
          first
          | (have hp := rdT_t (n := n) (I := imgS s) (by simpa using h); rw [hp]; exact ⟨.tuple #[.agg (ints [(n : Int), ((128 : Nat) : Int), ((32768 : Nat) : Int), ((32896 : Nat) : Int), (((n - 32896) / 256 : Nat) : Int)]).toArray, .int .i64 0], R * Dev d s, resA2 rfl (rv_cell a23 sz23 rfl (by repeat (first | with_reducible exact has_here | with_reducible exact has_pt | apply has_left)) (by show 5 ≤ 5; decide) rfl) (rv_tmp rfl), Dr.sat (by repeat (first | with_reducible exact dr_refl | apply dr_keep | apply dr_drop)), rfl, rfl⟩)
          | (have hp := rdT_f (n := n) (I := imgS s) (by simpa using h); rw [hp]; exact ⟨.tuple #[.agg (ints [0, 0, 0, 0, 0]).toArray, .int .i64 100], R * Dev d s, resA2 rfl (rv_cell a23 sz23 rfl (by repeat (first | with_reducible exact has_here | with_reducible exact has_pt | apply has_left)) (by show 5 ≤ 5; decide) rfl) (rv_tmp rfl), Dr.sat (by repeat (first | with_reducible exact dr_refl | apply dr_keep | apply dr_drop)), rfl, rfl⟩)
end Go.Vl

set_option linter.unusedVariables false
set_option linter.unusedSimpArgs false
namespace Go.Vl.Rg
open Go
/-- Of what make the frame is: a function's, or a round's. -/
class Rm where
  r : Option Nat
def Fc (μ : Rm) : Fence := { Fence.wide with round := μ.r }
/-- The blocks of the deferred calls of loops that were begun: the frame keeps them behind its last slot. -/
def blk : Value → Nat
  | .int _ i => i.toNat
  | _ => 0
def mks : Value → List Nat
  | .tuple vs => vs.toList.map blk
  | _ => []
def mkv (rs : List Nat) : Value := .tuple (rs.map fun r : Nat => Value.int .i64 (r : Int)).toArray
theorem mks_mkv (rs : List Nat) : mks (mkv rs) = rs := by
  simp only [mkv, mks, List.map_map]
  induction rs with
  | nil => rfl
  | cons r rs ih => rw [List.map_cons, ih]; rfl
def mark (r : Nat) : Deferred := { target := .collected r, args := #[] }
def mkO : Obj := .deferred (some [])
structure Agr (n : Nat) (ρ : Env) (a : Act) : Prop where
  df : a.defers = (mks (ρ n)).map mark
  sz : a.tmps.size = n
  ev : ∀ t, t < n → a.tmps.getD t undef = ρ t
def put (n : Nat) (ρ : Env) : Option Tmp → Value → Env
  | some d, v => bif Nat.blt d n then upd ρ d v else ρ
  | none, _ => ρ
theorem Agr.plain {n : Nat} {ρ : Env} {a : Act} (h : Agr n ρ a) : Vl.Agr n ρ { a with defers := [] } := ⟨rfl, h.sz, h.ev⟩
theorem Agr.eval {n : Nat} {ρ : Env} {a : Act} (h : Agr n ρ a) : a.eval = Vl.ev n ρ := by
  rw [← h.plain.eval]; rfl
theorem Agr.put {n : Nat} {ρ : Env} {a : Act} (h : Agr n ρ a) (d : Option Tmp) (v : Value) : Agr n (Rg.put n ρ d v) (a.put d v) := by
  cases d with
  | none => exact h
  | some d =>
    simp only [Rg.put]
    cases hb : Nat.blt d n with
    | true =>
      have hlt := Nat.blt_eq.mp hb
      have := h.plain.put (some d) v
      refine ⟨?_, this.sz, this.ev⟩
      have hn : Nat.beq n d = false := by
        cases hb : Nat.beq n d with
        | false => rfl
        | true => have := Nat.eq_of_beq_eq_true hb; omega
      simp only [Act.put, cond_true, upd, hn, cond_false]
      exact h.df
    | false =>
      have hge : n ≤ d := by
        rcases Nat.lt_or_ge d n with hlt | hge
        · rw [Nat.blt_eq.mpr hlt] at hb; cases hb
        · exact hge
      refine ⟨h.df, by simp [Act.put, h.sz], fun t ht => ?_⟩
      simp only [Act.put, cond_false]
      rw [← h.ev t ht, Array.getD_eq_getD_getElem?, Array.getElem?_setIfInBounds, if_neg (by omega), Array.getD_eq_getD_getElem?]
def lift (g : Gh) (n : Nat) (Q : Post) : Exit → Act → World → Prop := fun e a w => okE e = true ∧ ∃ ρ A, Agr n ρ a ∧ sat g w A ∧ Q e ρ A
def TC [μ : Rm] (P : Program) (n : Nat) (c : Code) (Q : Post) (ρ : Env) (A : SP) : Prop :=
  ∀ g a w, Agr n ρ a → sat g w A → c.wpIn (Fc μ) 0 P (lift g n Q) a w
def TL [μ : Rm] (P : Program) (n : Nat) (ops : Array Oper) (Q : Post) (l : List Oper) (ρ : Env) (A : SP) : Prop :=
  ∀ g a w, Agr n ρ a → sat g w A → wpListIn (Fc μ) 0 P ops (lift g n Q) l a w
/-- A call of yield: what it hands back, and what holds of memory behind it. -/
def Yd (P : Program) (l : Nat) (args : Array Value) (A : SP) (Q : Value → SP → Prop) : Prop :=
  ∀ g w, sat g w A → ∃ f tmps assign body, (Instr.yield l args).run P w = .ok (.round l f tmps assign body) w ∧
    RoundIn Fence.wide 0 P l f tmps assign body w fun e w' => ∃ v B, e = .returned v ∧ Q v B ∧ sat g w' B
theorem Yd.mono {P : Program} {l : Nat} {args : Array Value} {A : SP} {Q Q' : Value → SP → Prop} (h : Yd P l args A Q) (k : ∀ v B, Q v B → Q' v B) : Yd P l args A Q' := fun g w hs =>
  let ⟨f, t, a, b, hy, hr⟩ := h g w hs
  ⟨f, t, a, b, hy, hr.mono fun _ _ ⟨v, B, e, q, s⟩ => ⟨v, B, e, k v B q, s⟩⟩
theorem Yd.pre {P : Program} {l : Nat} {args : Array Value} {A A' : SP} {Q : Value → SP → Prop} (h : Yd P l args A Q) (k : ∀ g w, sat g w A' → sat g w A) : Yd P l args A' Q := fun g w hs => h g w (k g w hs)
section
variable {μ : Rm} {P : Program} {n : Nat} {Q : Post} {ρ : Env} {A : SP}
theorem tc_imp {c : Code} {Q' : Post} (h : TC P n c Q ρ A) (k : ∀ e ρ A, Q e ρ A → Q' e ρ A) : TC P n c Q' ρ A :=
  fun g a w ha hs => wpIn_mono (h g a w ha hs) fun _ _ _ ⟨o, ρ, A, x, y, z⟩ => ⟨o, ρ, A, x, y, k _ _ _ z⟩
theorem tc_pre {c : Code} {A' : SP} (k : ∀ g w, sat g w A → sat g w A') (h : TC P n c Q ρ A') : TC P n c Q ρ A :=
  fun g a w ha hs => h g a w ha (k g w hs)
theorem tc_eq {c : Code} {A' : SP} (k : A = A') (h : TC P n c Q ρ A') : TC P n c Q ρ A := k ▸ h
theorem tc_env {c : Code} {d : Nat} {v : Value} (h : ρ d = v) (k : TC P n c Q (upd ρ d v) A) : TC P n c Q ρ A := by
  rw [← env_set h] at k; exact k
theorem tc_have {c : Code} {p : Prop} (k : ∀ g w, sat g w A → p) (h : p → TC P n c Q ρ A) : TC P n c Q ρ A :=
  fun g a w ha hs => h (k g w hs) g a w ha hs
theorem tc_seq {x y : Code} (h : TC P n x (thenQ (TC P n y Q) Q) ρ A) : TC P n (x.seq y) Q ρ A := fun g a w ha hs =>
  wpIn_seq (wpIn_mono (h g a w ha hs) fun e a' w' ⟨hok, ρ', A', ha', hs', hq⟩ => by
    cases e with
    | normal => exact hq g a' w' ha' hs'
    | _ => exact ⟨hok, ρ', A', ha', hs', hq⟩)
theorem tc_skip (h : Q .normal ρ A) : TC P n .skip Q ρ A := fun g a w ha hs => wpIn_skip ⟨rfl, ρ, A, ha, hs, h⟩
theorem tc_ret (h : Q .ret ρ A) : TC P n .ret Q ρ A := fun g a w ha hs => wpIn_ret ⟨rfl, ρ, A, ha, hs, h⟩
theorem tc_exit {id : Nat} (h : Q (.exit id) ρ A) : TC P n (.exit id) Q ρ A := fun g a w ha hs => wpIn_exit ⟨rfl, ρ, A, ha, hs, h⟩
theorem tc_block {id : Nat} {c : Code} (h : TC P n c (blockQ id Q) ρ A) : TC P n (.block id c) Q ρ A := fun g a w ha hs =>
  wpIn_block (wpIn_mono (h g a w ha hs) fun e a' w' ⟨hok, ρ', A', ha', hs', hq⟩ => by
    cases e with
    | exit k =>
      simp only [Exit.inBlock]
      by_cases hk : k = id
      · subst hk
        simp only [blockQ, Nat.beq_refl, cond_true] at hq
        rw [if_pos rfl]; exact ⟨rfl, ρ', A', ha', hs', hq⟩
      · have : Nat.beq k id = false := by
          cases hb : Nat.beq k id with
          | false => rfl
          | true => exact absurd (Nat.eq_of_beq_eq_true hb) hk
        simp only [blockQ, this, cond_false] at hq
        rw [if_neg hk]; exact ⟨rfl, ρ', A', ha', hs', hq⟩
    | _ => exact ⟨hok, ρ', A', ha', hs', hq⟩)
theorem tc_cond {c : Operand} {x y : Code} {t : Bool} (hc : ev n ρ c = .bool t) (h1 : t = true → TC P n x Q ρ A) (h2 : t = false → TC P n y Q ρ A) : TC P n (.cond c x y) Q ρ A := fun g a w ha hs => by
  refine wpIn_cond (t := t) (by rw [ha.eval]; exact hc) ?_
  cases t with
  | true => exact h1 rfl g a w ha hs
  | false => exact h2 rfl g a w ha hs
theorem tc_cond_t {c : Operand} {x y : Code} (hc : ev n ρ c = .bool true) (h : TC P n x Q ρ A) : TC P n (.cond c x y) Q ρ A := tc_cond hc (fun _ => h) (fun e => by cases e)
theorem tc_cond_f {c : Operand} {x y : Code} (hc : ev n ρ c = .bool false) (h : TC P n y Q ρ A) : TC P n (.cond c x y) Q ρ A := tc_cond hc (fun e => by cases e) (fun _ => h)
theorem tc_cut {c : Code} (M : Env → SP → Prop) (h : TC P n c (fun e ρ' A' => match e with | .normal => M ρ' A' | e => Q e ρ' A') ρ A) (k : ∀ ρ' A', M ρ' A' → Q .normal ρ' A') : TC P n c Q ρ A :=
  tc_imp h fun e ρ' A' hq => by
    cases e with
    | normal => exact k _ _ hq
    | _ => exact hq
theorem tc_loop {c : Code} (I : Nat → Env → SP → Prop) {m : Nat} (h0 : I m ρ A)
    (round : ∀ k ρ A, I k ρ A → TC P n c (thenQ (fun ρ' A' => ∃ k', k' < k ∧ I k' ρ' A') Q) ρ A) : TC P n (.loop c) Q ρ A := fun g a w ha hs b kk cs hro hb hr => by
  have key : ∀ k ρ A, I k ρ A → ∀ a w, Agr n ρ a → sat g w A → ∃ e a' w', lift g n Q e a' w' ∧ ArrivesIn (Machine.fenced P (Fc μ)) P (lone (b.atR a (.code c :: .inLoop c :: kk)) cs w) b kk cs e a' w' := by
    intro k
    induction k using Nat.strongRecOn with
    | _ k ih =>
      intro ρ A hI a w ha hs
      obtain ⟨e, a₁, w₁, ⟨hok, ρ₁, A₁, ha₁, hs₁, hq⟩, harr⟩ := round k ρ A hI g a w ha hs b (.inLoop c :: kk) cs hro hb hr
      cases e with
      | normal =>
        obtain ⟨k', hlt, hI'⟩ := hq
        obtain ⟨e₂, a₂, w₂, hq₂, harr₂⟩ := ih k' hlt ρ₁ A₁ hI' a₁ w₁ ha₁ hs₁
        exact ⟨e₂, a₂, w₂, hq₂, .of_steps (StepsIn.trans harr (.one (fenced_calm hb hr rfl) stepR_inLoop)) harr₂⟩
      | exit id => exact ⟨_, a₁, w₁, ⟨hok, ρ₁, A₁, ha₁, hs₁, hq⟩, .pass (x := .inLoop c) rfl (fun _ _ => .inl (by simp)) harr⟩
      | goto l => exact ⟨_, a₁, w₁, ⟨hok, ρ₁, A₁, ha₁, hs₁, hq⟩, .pass (x := .inLoop c) rfl (fun _ _ => .inl (by simp)) harr⟩
      | ret => exact ⟨_, a₁, w₁, ⟨hok, ρ₁, A₁, ha₁, hs₁, hq⟩, .pass (x := .inLoop c) rfl (fun _ _ => .inl (by simp)) harr⟩
      | panic ch => exact ⟨_, a₁, w₁, ⟨hok, ρ₁, A₁, ha₁, hs₁, hq⟩, .pass (x := .inLoop c) rfl (fun _ _ => .inl (by simp)) harr⟩
      | outgrown => exact ⟨_, a₁, w₁, ⟨hok, ρ₁, A₁, ha₁, hs₁, hq⟩, .pass (x := .inLoop c) rfl (fun _ _ => .inl (by simp)) harr⟩
  obtain ⟨e, a', w', hq, harr⟩ := key m ρ A h0 a w ha hs
  exact ⟨e, a', w', hq, .of_steps (.one (fenced_calm hb hr rfl) stepR_loop) harr⟩
/-! ### Operations -/
theorem want_eq {ops : Array Oper} {a : Act} {o : Oper} (ha : Agr n ρ a) : Region.wanted o (yielded ops a.tmps) = wantE n ops ρ o := by
  have := Vl.want_eq (ops := ops) (o := o) ha.plain
  exact this
theorem sem_eq {ro : Option Nat} {e : Operand → Value} {o : Oper} {w w' : World} {x : Next} (h : (execOp e o).run P w = .ok x w') (hd : ∀ d, x ≠ .defer d) : (Oper.semAt ro e o).run P w = .ok x w' := by
  cases ro with
  | none => exact h
  | some l =>
    by_cases hc : ∃ c, o.op = .defer c
    · exfalso
      obtain ⟨c, hc⟩ := hc
      unfold execOp at h
      rw [hc] at h
      simp only [] at h
      rw [Sem.run_bind] at h
      cases hr : (resolve e c o.type).run P w with
      | ok d w1 => rw [hr] at h; simp [Result.andThen, pure, Sem.run] at h; exact hd d h.1.symm
      | halt x w1 => rw [hr] at h; simp [Result.andThen] at h
    · rw [Oper.semAt_eq _ _ _ fun c e => hc ⟨c, e⟩]; exact h
section
variable {ops : Array Oper} {o : Oper} {rest : List Oper}
theorem tl_nil (h : Q .normal ρ A) : TL P n ops Q [] ρ A := fun g a w ha hs => wpListIn_nil ⟨rfl, ρ, A, ha, hs, h⟩
theorem tl_eq {A' : SP} {l : List Oper} (k : A = A') (h : TL P n ops Q l ρ A') : TL P n ops Q l ρ A := k ▸ h
theorem tl_pre {A' : SP} {l : List Oper} (k : ∀ g w, sat g w A → sat g w A') (h : TL P n ops Q l ρ A') : TL P n ops Q l ρ A := fun g a w ha hs => h g a w ha (k g w hs)
theorem tl_env {l : List Oper} {d : Nat} {v : Value} (h : ρ d = v) (k : TL P n ops Q l (upd ρ d v) A) : TL P n ops Q l ρ A := by
  rw [← env_set h] at k; exact k
theorem tl_have {l : List Oper} {p : Prop} (k : ∀ g w, sat g w A → p) (h : p → TL P n ops Q l ρ A) : TL P n ops Q l ρ A := fun g a w ha hs => h (k g w hs) g a w ha hs
theorem tl_bool {l : List Oper} {d : Nat} {b : Bool} (hv : ρ d = .bool b) (ht : b = true → TL P n ops Q l (upd ρ d (.bool true)) A) (hf : b = false → TL P n ops Q l (upd ρ d (.bool false)) A) : TL P n ops Q l ρ A := by
  cases b with
  | true => exact tl_env hv (ht rfl)
  | false => exact tl_env hv (hf rfl)
theorem tl_skip (hw : wantE n ops ρ o = false) (k : TL P n ops Q rest (put n ρ o.dst undef) A) : TL P n ops Q (o :: rest) ρ A := fun g a w ha hs => by
  unfold wpListIn
  rw [want_eq ha, hw]
  exact ⟨fun _ _ => trivial, k g _ w (ha.put _ _) hs⟩
theorem tl_v {v : Value} (hw : wantE n ops ρ o = true) (h : OpV P n ρ A o v) (k : TL P n ops Q rest (put n ρ o.dst v) A) : TL P n ops Q (o :: rest) ρ A := fun g a w ha hs => by
  unfold wpListIn
  rw [want_eq ha, hw, if_pos rfl]
  refine ⟨fun _ _ => trivial, ?_⟩
  rw [ha.eval, sem_eq (h g w hs) (by simp)]
  exact k g _ w (ha.put _ _) hs
theorem tlm {d : Nat} {ty : TypeId} {pos : String} {after : Array Edge} {gd : Option (Nat × Bool)} {x : Operand} {v : Value} (k : TL P n ops Q rest (put n ρ (some d) v) A) (h : ev n ρ x = v := by conv => lhs; whnf) (hw : wantE n ops ρ ⟨some d, .move x, ty, pos, after, gd⟩ = true := by rfl) : TL P n ops Q (⟨some d, .move x, ty, pos, after, gd⟩ :: rest) ρ A := tl_v hw (o_move h) k
theorem tla {d : Nat} {ty : TypeId} {pos : String} {after : Array Edge} {gd : Option (Nat × Bool)} {x : Operand} {v : Value} (k : TL P n ops Q rest (put n ρ (some d) v) A) (h : ev n ρ x = v := by conv => lhs; whnf) (hw : wantE n ops ρ ⟨some d, .assign x, ty, pos, after, gd⟩ = true := by rfl) : TL P n ops Q (⟨some d, .assign x, ty, pos, after, gd⟩ :: rest) ρ A := tl_v hw (o_assign h) k
theorem tl_x {R : Value → SP → Prop} (hw : wantE n ops ρ o = true) (h : OpX P n ρ A o R) (k : ∀ v B, R v B → TL P n ops Q rest (put n ρ o.dst v) B) : TL P n ops Q (o :: rest) ρ A := fun g a w ha hs => by
  unfold wpListIn
  rw [want_eq ha, hw, if_pos rfl]
  refine ⟨fun _ _ => trivial, ?_⟩
  obtain ⟨v, w', B, hr, hb, hR⟩ := h g w hs
  rw [ha.eval, sem_eq hr (by simp)]
  exact k v B hR g _ w' (ha.put _ _) hb
theorem tl_u {B : SP} (hw : wantE n ops ρ o = true) (h : OpU P n ρ A o B) (k : TL P n ops Q rest (put n ρ o.dst undef) B) : TL P n ops Q (o :: rest) ρ A := fun g a w ha hs => by
  unfold wpListIn
  rw [want_eq ha, hw, if_pos rfl]
  refine ⟨fun _ _ => trivial, ?_⟩
  obtain ⟨w', hr, hb⟩ := h g w hs
  rw [ha.eval, sem_eq hr (by simp)]
  exact k g _ w' (ha.put _ _) hb
theorem tl_c {R : Value → SP → Prop} (hw : wantE n ops ρ o = true) (h : OpC P n ρ A o R) (k : ∀ v B, R v B → TL P n ops Q rest (put n ρ o.dst v) B) : TL P n ops Q (o :: rest) ρ A := fun g a w ha hs => by
  unfold wpListIn
  rw [want_eq ha, hw, if_pos rfl]
  refine ⟨fun _ _ => trivial, ?_⟩
  obtain ⟨f, args, w', hr, hc⟩ := h g w hs
  rw [ha.eval, sem_eq hr (by simp)]
  refine ⟨fun h => (by cases h), ?_⟩
  have hc' : CallsIn Fence.wide (0 - 1) P f args w' fun e w'' => ∃ v B, e = .returned v ∧ R v B ∧ sat g w'' B := callsIn_wide.2 hc
  refine CallsIn.mono (show CallsIn (Fc μ) (0 - 1) P f args w' _ from hc') fun e w'' ⟨v, B, he, hR, hb⟩ => ?_
  subst he
  exact k v B hR g _ w'' (ha.put _ _) hb
/-- A call of yield. -/
theorem tl_y {R : Value → SP → Prop} {x : Operand} {l : Nat} {args : Array Operand} {tys : Array TypeId} {vs : List Value} {dst : Option Tmp} {ty : TypeId} {pos : String} {after : Array Edge} {gd : Option (Nat × Bool)}
    (hw : wantE n ops ρ ⟨dst, .call { callee := .value x, args := args, argTypes := tys }, ty, pos, after, gd⟩ = true) (hx : ev n ρ x = .func (.yield l) #[] #[]) (hv : args.toList.map (ev n ρ) = vs) (h : Yd P l vs.toArray A R)
    (k : ∀ v B, R v B → TL P n ops Q rest (put n ρ dst v) B) : TL P n ops Q (⟨dst, .call { callee := .value x, args := args, argTypes := tys }, ty, pos, after, gd⟩ :: rest) ρ A := fun g a w ha hs => by
  unfold wpListIn
  rw [want_eq ha, hw, if_pos rfl]
  refine ⟨fun _ _ => trivial, ?_⟩
  obtain ⟨f, tmps, assign, body, hy, hr⟩ := h g w hs
  have he : args.map (ev n ρ) = vs.toArray := Array.ext' (by rw [Array.toList_map, hv])
  have hex : (execOp (ev n ρ) ⟨dst, .call { callee := .value x, args := args, argTypes := tys }, ty, pos, after, gd⟩).run P w = .ok (.round l f tmps assign body) w := by
    simp only [execOp, resolve, hx, Deferred.ofValue, he]
    rw [run_bind (w' := w) (a := ⟨.fn (.yield l) #[], #[] ++ vs.toArray⟩) (by rfl)]
    simpa [invoke] using hy
  rw [ha.eval, sem_eq hex (by simp)]
  refine ⟨fun h => (by cases h), ?_⟩
  refine RoundIn.mono (show RoundIn (Fc μ) (0 - 1) P l f tmps assign body w _ from hr) fun e w'' ⟨v, B, he, hR, hb⟩ => ?_
  subst he
  exact k v B hR g _ w'' (ha.put _ _) hb
theorem tc_reg {id : Nat} {l : List Oper} (h : TL P n l.toArray Q l ρ A) : TC P n (.region id l.toArray false) Q ρ A := fun g a w ha hs => wpIn_region_lit (h g a w ha hs)
end
end
/-! ## Functions -/
/-- The marks' blocks. -/
def Mk : List Nat → SP
  | [] => emp
  | r :: rs => Mk rs * pt r mkO
def retW (P : Program) (n : Nat) (fn : Func) (Q : Value → SP → Prop) : Post
  | .ret, ρ, A | .normal, ρ, A => ∃ rs B, mks (ρ n) = rs ∧ (∀ g w, sat g w A → sat g w (B * Mk rs)) ∧ ∃ v A', Res P n fn ρ B v ∧ (∀ g w, sat g w B → sat g w A') ∧ Q v A'
  | _, _, _ => False
theorem leaves_mk {P : Program} {fn : Func} {tmps : Array Value} {R : Ending → World → Prop} {g : Gh} {B : SP} : ∀ (rs : List Nat) (w : World), sat g w (B * Mk rs) →
    (∀ w, sat g w B → ∃ v, (results fn tmps).run P w = .ok v w ∧ R (.returned v) w) → LeavesInM Fence.wide 0 P fn tmps R (rs.map mark) .returning w
  | [], w, hs, h => h w hs.left
  | r :: rs, w, hs, h => by
    have hs' : sat g w (B * Mk rs * pt r mkO) := by rw [star_assoc]; exact hs
    have hr : w.heap[r]? = some mkO := has_here g w hs'
    refine ⟨by simp, .inl ⟨r, _, rfl, run_takeDeferred hr, leaves_mk rs _ ?_ h⟩⟩
    have hu : Upd (B * Mk rs * pt r mkO) r mkO (.deferred none) (B * Mk rs * pt r (.deferred none)) := upd_here
    have := hu.sat hs' (w' := w.putObj r (.deferred none)) (fun k => by
      by_cases hk : k = r
      · subst hk; rw [if_pos rfl]; exact World.putObj_heap_same (Array.getElem?_eq_some_iff.1 hr).1
      · rw [if_neg hk]; exact World.putObj_heap_other hk) rfl rfl rfl
    exact this.left
instance plainM : Rm := ⟨none⟩
theorem fn_enterW {P : Program} {f : FuncId} {fn : Func} {c : Code} {args : List Value} {A : SP} {Q : Value → SP → Prop} {n : Nat} (hf : P.funcs[f]? = some fn) (hb : fn.body = some c)
    (hn : fn.ntmps = n) (hle : args.length ≤ n) (h : @TC ⟨none⟩ P n c (retW P n fn Q) (argEnv und 0 args) A) : Fn P f args.toArray A Q := fun g w hs => by
  refine callsIn_wide.1 (callsIn_of_wp_marks (n := 0) hf hb trivial (wpIn_mono (h g _ w ?_ hs) ?_))
  · have hsz : (args.toArray ++ Array.replicate (fn.ntmps - args.toArray.size) undef).size = n := by simp; omega
    have key : ∀ (l : List Value) (ρ : Env) (k t : Nat), argEnv ρ k l t = if k ≤ t ∧ t < k + l.length then l.getD (t - k) undef else ρ t := by
      intro l
      induction l with
      | nil => intro ρ k t; simp only [argEnv, List.length_nil]; rw [if_neg (by omega)]
      | cons v l ih =>
        intro ρ k t
        simp only [argEnv, ih, List.length_cons]
        by_cases h1 : k + 1 ≤ t ∧ t < k + 1 + l.length
        · rw [if_pos h1, if_pos (by omega)]
          have : t - k = (t - (k + 1)) + 1 := by omega
          rw [this]; simp
        · rw [if_neg h1]
          by_cases h2 : t = k
          · subst h2
            rw [if_pos (by omega)]
            simp [upd]
          · rw [if_neg (by omega)]
            have : Nat.beq t k = false := by
              cases hb : Nat.beq t k with
              | false => rfl
              | true => exact absurd (Nat.eq_of_beq_eq_true hb) h2
            simp [upd, this]
    refine ⟨?_, hsz, fun t ht => ?_⟩
    · rw [key, if_neg (by omega)]; rfl
    · rw [key]
      rw [Array.getD_eq_getD_getElem?, Array.getElem?_append]
      by_cases h1 : t < args.length
      · rw [if_pos (by simpa using h1), if_pos (by omega)]
        simp
      · rw [if_neg (by simpa using h1), if_neg (by omega)]
        simp only [List.size_toArray] at *
        rw [Array.getElem?_replicate]
        split <;> simp [und]
  · rintro e a' w' ⟨_, ρ', A', ha', hs', hq⟩
    have fin : ∀ a' w', Agr n ρ' a' → sat g w' A' → retW P n fn Q .ret ρ' A' → LeavesInM Fence.wide 0 P fn a'.tmps (fun e w' => ∃ v B, e = .returned v ∧ Q v B ∧ sat g w' B) a'.defers .returning w' := by
      intro a' w' ha' hs' hq
      obtain ⟨rs, B, hm, hB, v, A2, hr, hi, hQ⟩ := hq
      rw [ha'.df, hm]
      exact leaves_mk rs w' (hB g w' hs') fun w hw => ⟨v, by have := hr g _ w ha'.plain hw; exact this, v, A2, rfl, hQ, hi g w hw⟩
    cases e with
    | normal => exact fin a' w' ha' hs' hq
    | ret => exact fin a' w' ha' hs' hq
    | _ => exact hq.elim
/-! ## Rounds -/
/-- A loop's record: its state, the jump that waits, the frame that it copies. -/
def Lp (l : Nat) (st : LoopState) (pe : Option Code) (n : Nat) (ρ : Env) (ps : Array Tmp) (assign body : Code) : SP :=
  ex fun r : Loop => fun h => (r.state = st ∧ r.pending = pe ∧ r.params = ps ∧ r.assign = assign ∧ r.body = body ∧ Vl.Agr n ρ { tmps := r.tmps, defers := [] }) ∧ pt l (.loop r) h
theorem lp_iff {l n : Nat} {st : LoopState} {pe : Option Code} {ρ : Env} {ps : Array Tmp} {assign body : Code} {R : SP} {g : Gh} {w : World} : sat g w (R * Lp l st pe n ρ ps assign body) ↔
    ∃ r : Loop, (r.state = st ∧ r.pending = pe ∧ r.params = ps ∧ r.assign = assign ∧ r.body = body ∧ Vl.Agr n ρ { tmps := r.tmps, defers := [] }) ∧ sat g w (R * pt l (.loop r)) := by
  constructor
  · intro hs
    obtain ⟨_, ⟨x, y, hd, rfl, ha, r, hr, hb⟩, hx⟩ := hs.hp
    exact ⟨r, hr, hs.os, hs.tape, hs.out, _, ⟨x, y, hd, rfl, ha, hb⟩, hx⟩
  · rintro ⟨r, hr, hs⟩
    exact hs.mono fun h ⟨x, y, hd, e, ha, hb⟩ => ⟨x, y, hd, e, ha, r, hr, hb⟩
theorem sat_putObj {R : SP} {l : Nat} {o o' : Obj} {g : Gh} {w : World} (hs : sat g w (R * pt l o)) : sat g (w.putObj l o') (R * pt l o') := by
  have hr : w.heap[l]? = some o := has_here g w hs
  exact (upd_here (R := R) (b := l) (o := o) (o' := o')).sat hs (w' := w.putObj l o') (fun k => by
    by_cases hk : k = l
    · subst hk; rw [if_pos rfl]; exact World.putObj_heap_same (Array.getElem?_eq_some_iff.1 hr).1
    · rw [if_neg hk]; exact World.putObj_heap_other hk) rfl rfl rfl
/-- The frame of a round: yield's arguments in the parameters. -/
def putL (n : Nat) : Env → List Tmp → List Value → Env
  | ρ, t :: ts, v :: vs => putL n (put n ρ (some t) v) ts vs
  | ρ, _, _ => ρ
theorem putL_agr {n : Nat} : ∀ (ts : List Tmp) (vs : List Value) (ρ : Env) (a : Act), Agr n ρ a → Agr n (putL n ρ ts vs) { a with tmps := (ts.zip vs).foldl (fun t (p : Tmp × Value) => t.setIfInBounds p.1 p.2) a.tmps }
  | [], _, _, a, h => by cases a; exact h
  | _ :: _, [], _, a, h => by cases a; exact h
  | t :: ts, v :: vs, ρ, a, h => putL_agr ts vs _ _ (h.put (some t) v)
/-- How a round may be left: by what its body says at its end. -/
def rndQ (l n : Nat) (ρ0 : Env) (ps : Array Tmp) (assign body : Code) (Q : Value → Option Code → SP → Prop) : Post
  | .normal, _, A => ∃ B, (∀ g w, sat g w A → sat g w (B * Lp l .busy none n ρ0 ps assign body)) ∧ Q (.bool true) none B
  | .ret, _, A => ∃ B, (∀ g w, sat g w A → sat g w (B * Lp l .busy none n ρ0 ps assign body)) ∧ Q (.bool false) (some .ret) B
  | .exit id, _, A => ∃ B, (∀ g w, sat g w A → sat g w (B * Lp l .busy none n ρ0 ps assign body)) ∧ Q (.bool false) (some (.exit id)) B
  | _, _, _ => False
def stOf : Option Code → LoopState
  | none => .ready
  | some _ => .done
/-- **A round, out of its body's walk.** -/
theorem yd_body {P : Program} {l n : Nat} {ρ : Env} {ps : Array Tmp} {assign body : Code} {A : SP} {vs : List Value} {Q : Value → Option Code → SP → Prop} (hn : vs.length = ps.size) (hm : mks (ρ n) = [])
    (h : @TC ⟨some l⟩ P n assign (fun e ρ' A' => match e with
      | .normal => ∃ B, (∀ g w, sat g w A' → sat g w (B * Lp l .ready none n ρ ps assign body)) ∧ @TC ⟨some l⟩ P n body (rndQ l n ρ ps assign body Q) ρ' (B * Lp l .busy none n ρ ps assign body)
      | _ => False) (putL n ρ ps.toList vs) (A * Lp l .ready none n ρ ps assign body)) :
    Yd P l vs.toArray (A * Lp l .ready none n ρ ps assign body) (fun v B => ∃ C j, Q v j C ∧ B = C * Lp l (stOf j) j n ρ ps assign body) := fun g w hs => by
  obtain ⟨r, ⟨h1, h2, h3, h4, h5, h6⟩, hs'⟩ := lp_iff.1 hs
  have hl : w.heap[l]? = some (.loop r) := has_here g w hs'
  refine ⟨r.fn, (r.params.zip vs.toArray).foldl (fun tmps (x : Tmp × Value) => tmps.setIfInBounds x.1 x.2) r.tmps, assign, body, ?_, ?_⟩
  · have := run_yield (P := P) (args := vs.toArray) hl (by simp [h3, hn])
    rw [h4, h5] at this; exact this
  have ha0 : Agr n ρ { tmps := r.tmps, defers := [] } := ⟨by rw [hm]; rfl, h6.sz, h6.ev⟩
  have ha := putL_agr ps.toList vs ρ _ ha0
  have e0 : ((r.params.zip vs.toArray).foldl (fun tmps (x : Tmp × Value) => tmps.setIfInBounds x.1 x.2) r.tmps) = ((ps.toList.zip vs).foldl (fun t (p : Tmp × Value) => t.setIfInBounds p.1 p.2) r.tmps) := by
    rw [h3, ← Array.foldl_toList, Array.toList_zip]
  refine roundIn_of_wpIn (F := Fence.wide) trivial ?_
  show assign.wpIn (Fc ⟨some l⟩) 0 P _ { tmps := (r.params.zip vs.toArray).foldl (fun tmps (x : Tmp × Value) => tmps.setIfInBounds x.1 x.2) r.tmps, defers := [] } w
  rw [e0]
  refine wpIn_mono (h g _ w ha hs) ?_
  rintro e a1 w1 ⟨_, ρ1, A1, ha1, hs1, hq⟩
  cases e with
  | normal =>
    obtain ⟨B, hB, hbody⟩ := hq
    have hs1 := hB g w1 hs1
    obtain ⟨r1, ⟨g1, g2, g3, g4, g5, g6⟩, hs1'⟩ := lp_iff.1 hs1
    have hl1 : w1.heap[l]? = some (.loop r1) := has_here g w1 hs1'
    refine ⟨_, run_beginRound hl1 g1, ?_⟩
    have hs2 := sat_putObj (o' := .loop { r1 with state := .busy }) hs1'
    have hs3 : sat g (w1.putObj l (.loop { r1 with state := .busy })) (B * Lp l .busy none n ρ ps assign body) := lp_iff.2 ⟨{ r1 with state := .busy }, ⟨rfl, g2, g3, g4, g5, g6⟩, hs2⟩
    refine wpIn_mono (show body.wpIn (Fc ⟨some l⟩) 0 P _ a1 _ from hbody g a1 _ ha1 hs3) ?_
    rintro e a3 w3 ⟨_, ρ3, A3, ha3, hs4, hq3⟩
    have fin : ∀ (jump : Option Code), (∃ C, (∀ g w, sat g w A3 → sat g w (C * Lp l .busy none n ρ ps assign body)) ∧ Q (.bool jump.isNone) jump C) →
        ∃ v w', (Instr.endRound l jump).run P w3 = .ok v w' ∧ ∃ v' B', (Ending.returned v : Ending) = .returned v' ∧ (∃ C j, Q v' j C ∧ B' = C * Lp l (stOf j) j n ρ ps assign body) ∧ sat g w' B' := by
      rintro jump ⟨C, hC, hQ⟩
      have hs4 := hC g w3 hs4
      obtain ⟨r3, ⟨k1, k2, k3, k4, k5, k6⟩, hs5⟩ := lp_iff.1 hs4
      have hl3 : w3.heap[l]? = some (.loop r3) := has_here g w3 hs5
      refine ⟨_, _, run_endRound jump hl3, _, _, rfl, ⟨C, jump, hQ, rfl⟩, ?_⟩
      refine lp_iff.2 ⟨{ r3 with state := if jump.isNone then .ready else .done, pending := jump }, ⟨?_, rfl, k3, k4, k5, k6⟩, sat_putObj hs5⟩
      cases jump <;> rfl
    cases e with
    | normal => exact fin none hq3
    | ret => exact fin (some .ret) hq3
    | exit id => exact fin (some (.exit id)) hq3
    | _ => exact hq3.elim
  | _ => exact hq.elim
/-! ## The statement -/
/-- What is asked when the function that was ranged over has returned. -/
def jmpQ (Q : Post) (ρ : Env) (A : SP) : Option Code → Prop
  | none => Q .normal ρ A
  | some .ret => Q .ret ρ A
  | some (.exit id) => Q (.exit id) ρ A
  | _ => False
/-- **for .. := range g { .. }, in a function's own frame.** -/
theorem tc_range {P : Program} {n : Nat} {Q : Post} {ρ : Env} {A : SP} {x : Operand} {ps : Array Tmp} {assign body : Code} {gf : FuncId} {fs cs : List Value} (hx : ev n ρ x = .func (.func gf) fs.toArray cs.toArray) (hb : bodyB P gf = true)
    (h : ∀ r l : Nat, Fn P gf (fs ++ [Value.func (.yield l) #[] #[]] ++ cs).toArray (A * pt r mkO * Lp l .ready none n ρ ps assign body) fun _ B =>
      ∃ st j C, st ≠ .busy ∧ B = C * pt r mkO * Lp l st j n ρ ps assign body ∧ jmpQ Q (upd ρ n (mkv (r :: mks (ρ n)))) (C * pt r mkO) j) : @TC ⟨none⟩ P n (.rangeFunc x ps assign body) Q ρ A := fun g a w ha hs => by
  refine wpIn_rangeFunc fun fn _ => ?_
  obtain ⟨rec, hrec⟩ : ∃ rec : Loop, rec = { state := .ready, pending := none, fn, tmps := a.tmps, params := ps, assign, body, defers := w.heap.size } := ⟨_, rfl⟩
  obtain ⟨W1, hW1⟩ : ∃ W1, (w.alloc (.deferred (some []))).alloc (.loop rec) = W1 := ⟨_, rfl⟩
  have hs1 : sat g W1 (A * pt w.heap.size mkO * Lp (w.heap.size + 1) .ready none n ρ ps assign body) := by
    rw [← hW1]
    have hsz : (w.alloc (.deferred (some []))).heap.size = w.heap.size + 1 := by simp
    have := (hs.alloc (.deferred (some []))).alloc (.loop rec)
    rw [hsz] at this
    exact lp_iff.2 ⟨rec, by rw [hrec]; exact ⟨rfl, rfl, rfl, rfl, rfl, rfl, ha.sz, ha.ev⟩, this⟩
  refine ⟨w.heap.size + 1, [mark w.heap.size], W1, { target := .fn (.func gf) cs.toArray, args := fs.toArray ++ #[.func (.yield (w.heap.size + 1)) #[] #[]] }, W1, gf,
    (fs ++ [Value.func (.yield (w.heap.size + 1)) #[] #[]] ++ cs).toArray, W1, ?_, ?_, fun _ _ => trivial, ?_, fun h => (by cases h), ?_⟩
  · rw [← hW1, hrec]; exact run_enterLoop_outer _ _ _ _ _
  · simp only [resolve, ha.eval, hx]
    simp [Deferred.ofValue, ev, pure, bind, Sem.bind]
  · simp only [invoke]
    rw [run_callFunc hb]; simp
  · have hc := h w.heap.size (w.heap.size + 1) g W1 hs1
    refine CallsIn.mono (show CallsIn (Fc ⟨none⟩) (0 - 1) P gf _ W1 _ from callsIn_wide.2 hc) ?_
    rintro e w3 ⟨v, B, rfl, ⟨st, j, C, hst, rfl, hj⟩, hs3⟩
    obtain ⟨r3, ⟨k1, k2, k3, k4, k5, k6⟩, hs5⟩ := lp_iff.1 hs3
    have hl3 : w3.heap[w.heap.size + 1]? = some (.loop r3) := has_here g w3 hs5
    refine ⟨_, _, run_endLoop hl3 (by rw [k1]; exact hst), ?_⟩
    have hs6 := (sat_putObj (o' := .loop { r3 with state := .exhausted }) hs5).left
    have ha6 : Agr n (upd ρ n (mkv (w.heap.size :: mks (ρ n)))) { a with defers := [mark w.heap.size] ++ a.defers } := by
      refine ⟨?_, ha.sz, fun t ht => ?_⟩
      · show [mark w.heap.size] ++ a.defers = _
        have : upd ρ n (mkv (w.heap.size :: mks (ρ n))) n = mkv (w.heap.size :: mks (ρ n)) := by simp [upd]
        rw [this, mks_mkv, ha.df]; rfl
      · have : Nat.beq t n = false := by
          cases hb : Nat.beq t n with
          | false => rfl
          | true => have := Nat.eq_of_beq_eq_true hb; omega
        simp only [upd, this, cond_false]; exact ha.ev t ht
    rw [k2] at hs6 ⊢
    cases j with
    | none => exact ⟨rfl, _, _, ha6, hs6, hj⟩
    | some c =>
      cases c with
      | ret => exact wpIn_ret ⟨rfl, _, _, ha6, hs6, hj⟩
      | exit id => exact wpIn_exit ⟨rfl, _, _, ha6, hs6, hj⟩
      | _ => exact hj.elim
/-! ## Iterators -/
/-- What an iterator promises: it calls yield with val 0, val 1, .. up to N of them, till a round says no. K: what it holds of memory itself; a round leaves alone whatever else there is. -/
def It (P : Program) (gf : FuncId) (fs cs : List Value) (K : SP) (N : Nat) (val : Nat → List Value) : Prop :=
  ∀ (l : Nat) (J : Nat → SP → Prop) (X : SP → Prop) (S0 : SP), J 0 S0 →
    (∀ F i S, i < N → J i S → Yd P l (val i).toArray (F * S) fun v B => ∃ (b : Bool) (S' : SP), v = .bool b ∧ (b = true → J (i + 1) S') ∧ (b = false → X S') ∧ B = F * S') →
    Fn P gf (fs ++ [Value.func (.yield l) #[] #[]] ++ cs).toArray (S0 * K) fun r B => r = .tuple #[] ∧ ((∃ S, J N S ∧ B = S * K) ∨ ∃ S, X S ∧ B = S * K)
section
variable (l n : Nat) (ρ0 : Env) (ps : Array Tmp) (assign body : Code) (F : SP)
def rndI (I1 : SP → Prop) (X : Code → SP → Prop) : Post
  | .normal, _, A => ∃ S, (∀ g w, sat g w A → sat g w (F * S)) ∧ I1 S
  | .ret, _, A => ∃ S, (∀ g w, sat g w A → sat g w (F * S)) ∧ X .ret S
  | .exit id, _, A => ∃ S, (∀ g w, sat g w A → sat g w (F * S)) ∧ X (.exit id) S
  | _, _, _ => False
def asgI (P : Program) (I1 : SP → Prop) (X : Code → SP → Prop) : Post
  | .normal, ρ, A => ∃ S, (∀ g w, sat g w A → sat g w (F * S)) ∧ ∀ F, @TC ⟨some l⟩ P n body (rndI F I1 X) ρ (F * S)
  | _, _, _ => False
end
/-- **for .. := range g { .. }, over an iterator that has its contract.** -/
theorem tc_rangeI {P : Program} {n N : Nat} {Q : Post} {ρ : Env} {A A0 K : SP} {x : Operand} {ps : Array Tmp} {assign body : Code} {gf : FuncId} {fs cs : List Value} {val : Nat → List Value} (I : Nat → SP → Prop) (X : Code → SP → Prop)
    (hx : ev n ρ x = .func (.func gf) fs.toArray cs.toArray) (hb : bodyB P gf = true) (hit : It P gf fs cs K N val) (hps : ∀ i, (val i).length = ps.size) (hm : mks (ρ n) = []) (hA : ∀ g w, sat g w A → sat g w (A0 * K)) (h0 : I 0 A0)
    (round : ∀ l F i S, i < N → I i S → @TC ⟨some l⟩ P n assign (asgI l n body F P (I (i + 1)) X) (putL n ρ ps.toList (val i)) (F * S))
    (done : ∀ r S, I N S → Q .normal (upd ρ n (mkv [r])) (S * K * pt r mkO)) (jump : ∀ r j S, X j S → jmpQ Q (upd ρ n (mkv [r])) (S * K * pt r mkO) (some j)) : @TC ⟨none⟩ P n (.rangeFunc x ps assign body) Q ρ A := by
  refine tc_pre hA (tc_range hx hb fun r l => ?_)
  rw [hm]
  have hY := hit l (fun i S => ∃ S1, S = S1 * pt r mkO * Lp l .ready none n ρ ps assign body ∧ I i S1) (fun S => ∃ j S1, S = S1 * pt r mkO * Lp l .done (some j) n ρ ps assign body ∧ X j S1) _ ⟨A0, rfl, h0⟩ ?_
  · refine Fn.mono (hY.pre fun _ _ h => (show A0 * K * pt r mkO * Lp l .ready none n ρ ps assign body = A0 * pt r mkO * Lp l .ready none n ρ ps assign body * K by ac_rfl) ▸ h) ?_
    rintro v B ⟨_, ⟨_, ⟨S1, rfl, hI⟩, rfl⟩ | ⟨_, ⟨j, S1, rfl, hX⟩, rfl⟩⟩
    · exact ⟨.ready, none, S1 * K, by simp, by ac_rfl, done r S1 hI⟩
    · exact ⟨.done, some j, S1 * K, by simp, by ac_rfl, jump r j S1 hX⟩
  · rintro F i _ hi ⟨S1, rfl, hI⟩
    have e1 : ∀ (S L : SP), F * S * pt r mkO * L = F * pt r mkO * L * S := fun S L => by ac_rfl
    have hb := yd_body (P := P) (l := l) (n := n) (ρ := ρ) (ps := ps) (assign := assign) (body := body) (A := F * S1 * pt r mkO) (vs := val i)
      (Q := fun v j C => ∃ S2, C = F * S2 * pt r mkO ∧ ((j = none ∧ v = .bool true ∧ I (i + 1) S2) ∨ ∃ c, j = some c ∧ v = .bool false ∧ X c S2)) (hps i) hm
      (by
        rw [e1]
        refine tc_imp (round l (F * pt r mkO * Lp l .ready none n ρ ps assign body) i S1 hi hI) fun e ρ' A' hq => ?_
        cases e with
        | normal =>
          obtain ⟨S, hS, hbody⟩ := hq
          refine ⟨F * S * pt r mkO, fun g w h => by rw [e1]; exact hS g w h, ?_⟩
          rw [e1]
          refine tc_imp (hbody (F * pt r mkO * Lp l .busy none n ρ ps assign body)) fun e ρ2 A2 hq => ?_
          cases e with
          | normal => obtain ⟨S2, h2, hI2⟩ := hq; exact ⟨F * S2 * pt r mkO, fun g w h => by rw [e1]; exact h2 g w h, S2, rfl, .inl ⟨rfl, rfl, hI2⟩⟩
          | ret => obtain ⟨S2, h2, hI2⟩ := hq; exact ⟨F * S2 * pt r mkO, fun g w h => by rw [e1]; exact h2 g w h, S2, rfl, .inr ⟨_, rfl, rfl, hI2⟩⟩
          | exit id => obtain ⟨S2, h2, hI2⟩ := hq; exact ⟨F * S2 * pt r mkO, fun g w h => by rw [e1]; exact h2 g w h, S2, rfl, .inr ⟨_, rfl, rfl, hI2⟩⟩
          | _ => exact hq.elim
        | _ => exact hq.elim)
    refine (hb.pre fun _ _ h => (show F * (S1 * pt r mkO * Lp l .ready none n ρ ps assign body) = F * S1 * pt r mkO * Lp l .ready none n ρ ps assign body by ac_rfl) ▸ h).mono ?_
    rintro v B ⟨C, j, ⟨S2, rfl, ⟨rfl, rfl, hI2⟩ | ⟨c, rfl, rfl, hX⟩⟩, rfl⟩
    · exact ⟨true, _, rfl, fun _ => ⟨S2, rfl, hI2⟩, fun e => (by cases e), by show _ = F * (S2 * pt r mkO * Lp l (stOf none) none n ρ ps assign body); ac_rfl⟩
    · exact ⟨false, _, rfl, fun e => (by cases e), fun _ => ⟨c, S2, rfl, hX⟩, by show _ = F * (S2 * pt r mkO * Lp l (stOf (some c)) (some c) n ρ ps assign body); ac_rfl⟩
/-- What a round of the caller's does, in the iterator's own order of things. -/
theorem yd_b {P : Program} {l : Nat} {args : Array Value} {J X : SP → Prop} {F S A' : SP} {G : SP → SP} (h : Yd P l args (F * S) fun v B => ∃ (b : Bool) (S' : SP), v = .bool b ∧ (b = true → J S') ∧ (b = false → X S') ∧ B = F * S') (hA : A' = F * S) (hk : ∀ S : SP, F * S = G S) :
    Yd P l args A' fun v B => ∃ (b : Bool) (S' : SP), v = .bool b ∧ (b = true → J S') ∧ (b = false → X S') ∧ B = G S' := by
  subst hA
  refine h.mono fun v B ⟨b, S', e1, e2, e3, e4⟩ => ⟨b, S', e1, e2, e3, ?_⟩
  rw [e4, hk]
theorem jmp_r {Q : Post} {ρ : Env} {A : SP} (h : Q .ret ρ A) : jmpQ Q ρ A (some .ret) := h
theorem mk1 {B : SP} {r : Nat} {g : Gh} {w : World} (h : sat g w (B * pt r mkO)) : sat g w (B * Mk [r]) := by
  show sat g w (B * (emp * pt r mkO)); rw [emp_star]; exact h
theorem mk0 {B : SP} {g : Gh} {w : World} (h : sat g w B) : sat g w (B * Mk []) := by
  show sat g w (B * emp); rw [star_emp]; exact h
end Go.Vl.Rg

set_option linter.unusedVariables false
set_option linter.unusedSimpArgs false
namespace Go.Vl
open Go Go.Proofs
theorem star3 (S a b c : SP) : S * (a * b * c) = S * a * b * c := by rw [← star_assoc, ← star_assoc]
theorem star2' (S a b : SP) : S * (a * b) = S * a * b := (star_assoc _ _ _).symm
attribute [local irreducible] Sl pt ro Dev imgS
namespace Rg
theorem units1_f {at_ n l N b1 b2 b3 : Nat} {J : Nat → SP → Prop} {X : SP → Prop} {S0 : SP} (h1 : 1 ≤ n) (h2 : at_ + n ≤ 9223372036854775807) (hN : N = ((at_ + n - 1) / 8 - at_ / 8 + 1)) (h0 : J 0 S0) (hY : ∀ F i S, i < N → J i S → Yd Try.prog l #[.int .i64 ((at_ / 8 + i : Nat) : Int)] (F * S) (fun v B => ∃ (b : Bool) (S' : SP), v = .bool b ∧ (b = true → J (i + 1) S') ∧ (b = false → X S') ∧ B = F * S')) :
    Fn Try.prog 156 #[.func (.yield l) #[] #[], .pointer (some ⟨b1, 0, none⟩), .pointer (some ⟨b2, 0, none⟩), .pointer (some ⟨b3, 0, none⟩)] (S0 * pt b1 (cl [.int .i64 (at_ : Int)] 3) * pt b2 (cl [.int .i64 (n : Int)] 3) * pt b3 (cl [.int .i64 8] 3)) (fun r B => r = .tuple #[] ∧ ((∃ S, J N S ∧ B = S * pt b1 (cl [.int .i64 (at_ : Int)] 3) * pt b2 (cl [.int .i64 (n : Int)] 3) * pt b3 (cl [.int .i64 8] 3)) ∨ ∃ S, X S ∧ B = S * pt b1 (cl [.int .i64 (at_ : Int)] 3) * pt b2 (cl [.int .i64 (n : Int)] 3) * pt b3 (cl [.int .i64 8] 3))) := by
  refine fn_enterW (args := [.func (.yield l) #[] #[], .pointer (some ⟨b1, 0, none⟩), .pointer (some ⟨b2, 0, none⟩), .pointer (some ⟨b3, 0, none⟩)]) Try.func156 rfl Try.ntmps156 (by simp) ?_
  refine tc_seq ?_
  refine tc_seq ?_
  refine tc_reg ?_
  refine tl_v rfl (by first | exact o_load p3 rfl (by repeat (first | with_reducible exact has_here | with_reducible exact has_pt | apply has_left)) rfl | exact o_loadC p3 rfl (by assumption)) ?_
  refine tl_v rfl (o_lss rfl rfl) ?_
  refine tlm ?_
  refine tl_bool (d := 8) rfl (fun h => ?_) (fun h => ?_)
  · (exfalso; first | (revert h; simp; done) | (simp at h; done) | (revert h; simp; omega) | (simp at h; omega) | omega)
  · try simp only [lv1, lv2, lv3, lv4, lv5, lv6, Bool.not_true, Bool.not_false] at h
    refine tl_v rfl (by first | exact o_load p3 rfl (by repeat (first | with_reducible exact has_here | with_reducible exact has_pt | apply has_left)) rfl | exact o_loadC p3 rfl (by assumption)) ?_
    refine tl_v rfl (o_lss rfl rfl) ?_
    refine tl_v rfl (o_pick_f rfl (by conv => lhs; whnf)) ?_
    refine tlm ?_
    refine tl_bool (d := 12) rfl (fun h => ?_) (fun h => ?_)
    · (exfalso; first | (revert h; simp; done) | (simp at h; done) | (revert h; simp; omega) | (simp at h; omega) | omega)
    · try simp only [lv1, lv2, lv3, lv4, lv5, lv6, Bool.not_true, Bool.not_false] at h
      refine tl_v rfl (by first | exact o_load p3 rfl (by repeat (first | with_reducible exact has_here | with_reducible exact has_pt | apply has_left)) rfl | exact o_loadC p3 rfl (by assumption)) ?_
      refine tl_v rfl (by first | exact o_load p3 rfl (by repeat (first | with_reducible exact has_here | with_reducible exact has_pt | apply has_left)) rfl | exact o_loadC p3 rfl (by assumption)) ?_
      refine tl_v rfl (by first | exact o_subI rfl rfl (by omega) | exact o_sub rfl rfl) ?_
      refine tl_v rfl (o_gtr rfl rfl) ?_
      refine tl_v rfl (o_pick_f rfl (by conv => lhs; whnf)) ?_
      refine tl_nil ?_
      refine q_then_n ?_
      refine tc_cond rfl (fun h => ?_) (fun h => ?_)
      · (exfalso; first | (revert h; simp; done) | (simp at h; done) | (revert h; simp; omega) | (simp at h; omega) | omega)
      · try simp only [lv1, lv2, lv3, lv4, lv5, lv6, Bool.not_true, Bool.not_false] at h
        refine tc_skip ?_
        refine q_then_n ?_
        refine tc_seq ?_
        refine tc_reg ?_
        refine tl_v rfl (by first | exact o_load p3 rfl (by repeat (first | with_reducible exact has_here | with_reducible exact has_pt | apply has_left)) rfl | exact o_loadC p3 rfl (by assumption)) ?_
        refine tl_v rfl (by first | exact o_load p3 rfl (by repeat (first | with_reducible exact has_here | with_reducible exact has_pt | apply has_left)) rfl | exact o_loadC p3 rfl (by assumption)) ?_
        refine tl_v rfl (o_quoN (b := 8) rfl rfl (by omega)) ?_
        refine tla ?_
        refine tl_nil ?_
        refine q_then_n ?_
        refine tc_block ?_
        refine tc_loop (fun kk ρ BB => ∃ (k : Nat) (S : SP), (k ≤ N) ∧ (J k S) ∧ kk = N - k ∧ ρ 5 = .int .i64 ((at_ / 8 + k : Nat) : Int) ∧ ρ 35 = undef ∧ ρ 0 = .func (.yield l) #[] #[] ∧ ρ 1 = .pointer (some ⟨b1, 0, none⟩) ∧ ρ 2 = .pointer (some ⟨b2, 0, none⟩) ∧ ρ 3 = .pointer (some ⟨b3, 0, none⟩) ∧ BB = S * pt b1 (cl [.int .i64 (at_ : Int)] 3) * pt b2 (cl [.int .i64 (n : Int)] 3) * pt b3 (cl [.int .i64 8] 3)) (m := N - (0)) ?_ ?_
        · exact ⟨0, S0, by omega, h0, rfl, rfl, rfl, rfl, rfl, rfl, rfl, rfl⟩
        · intro k ρ B hI
          obtain ⟨k, S, hp0, hp1, hkk1, hE5, hE35, hE0, hE1, hE2, hE3, rfl⟩ := hI
          refine tc_env (d := 5) hE5 ?_
          refine tc_env (d := 35) hE35 ?_
          refine tc_env (d := 0) hE0 ?_
          refine tc_env (d := 1) hE1 ?_
          refine tc_env (d := 2) hE2 ?_
          refine tc_env (d := 3) hE3 ?_
          clear hE5 hE35 hE0 hE1 hE2 hE3
          refine tc_seq ?_
          refine tc_seq ?_
          refine tc_reg ?_
          refine tlm ?_
          refine tl_v rfl (by first | exact o_load p3 rfl (by repeat (first | with_reducible exact has_here | with_reducible exact has_pt | apply has_left)) rfl | exact o_loadC p3 rfl (by assumption)) ?_
          refine tl_v rfl (by first | exact o_load p3 rfl (by repeat (first | with_reducible exact has_here | with_reducible exact has_pt | apply has_left)) rfl | exact o_loadC p3 rfl (by assumption)) ?_
          refine tl_v rfl (by first | exact o_addI rfl rfl (by omega) | exact o_add rfl rfl) ?_
          refine tl_v rfl (by first | exact o_subI rfl rfl (by omega) | exact o_sub rfl rfl) ?_
          refine tl_v rfl (by first | exact o_load p3 rfl (by repeat (first | with_reducible exact has_here | with_reducible exact has_pt | apply has_left)) rfl | exact o_loadC p3 rfl (by assumption)) ?_
          refine tl_v rfl (o_quoI rfl rfl (by omega)) ?_
          refine tl_v rfl (o_leq rfl rfl) ?_
          refine tl_nil ?_
          refine q_then_n ?_
          refine tc_cond rfl (fun h => ?_) (fun h => ?_)
          · try simp only [lv1, lv2, lv3, lv4, lv5, lv6, Bool.not_true, Bool.not_false] at h
            refine tc_skip ?_
            refine q_then_n ?_
            refine tc_seq ?_
            refine tc_block ?_
            refine tc_seq ?_
            refine tc_reg ?_
            refine tlm ?_
            refine tlm ?_
            refine tl_y rfl rfl rfl (yd_b (F := pt b1 (cl [.int .i64 (at_ : Int)] 3) * pt b2 (cl [.int .i64 (n : Int)] 3) * pt b3 (cl [.int .i64 8] 3)) (G := fun S' => S' * pt b1 (cl [.int .i64 (at_ : Int)] 3) * pt b2 (cl [.int .i64 (n : Int)] 3) * pt b3 (cl [.int .i64 8] 3)) (hY _ k S (by omega) hp1) (by ac_rfl) (fun S' => by ac_rfl)) ?_
            rintro _ _ ⟨b33, S2, rfl, hT, hF, rfl⟩
            refine tl_v rfl (o_not rfl) ?_
            refine tl_nil ?_
            refine q_then_n ?_
            refine tc_cond rfl (fun h => ?_) (fun h => ?_)
            · have hb : b33 = false := by simpa using h
              subst hb
              refine tc_ret ?_
              refine q_block_r (q_then_r (q_then_r (q_block_r ?_)))
              exact ⟨[], _, rfl, fun _ _ h => mk0 h, .tuple #[], S2 * pt b1 (cl [.int .i64 (at_ : Int)] 3) * pt b2 (cl [.int .i64 (n : Int)] 3) * pt b3 (cl [.int .i64 8] 3), res0 rfl, fun _ _ h => h, rfl, .inr ⟨S2, hF rfl, rfl⟩⟩
            · have hb : b33 = true := by simpa using h
              subst hb
              refine tc_skip ?_
              refine q_block_n (q_then_n ?_)
              refine tc_reg ?_
              refine tlm ?_
              refine tl_v rfl (by first | exact o_addI rfl rfl (by omega) | exact o_add rfl rfl) ?_
              refine tla ?_
              refine tl_nil ?_
              refine q_then_n ?_
              exact ⟨_, by omega, k + 1, _, by omega, hT rfl, rfl, rfl, rfl, rfl, rfl, rfl, rfl, rfl⟩
          · try simp only [lv1, lv2, lv3, lv4, lv5, lv6, Bool.not_true, Bool.not_false] at h
            refine tc_exit ?_
            refine q_then_e (q_then_e (q_block_x ?_))
            obtain rfl : k = N := by omega
            exact ⟨[], _, rfl, fun _ _ h => mk0 h, .tuple #[], S * pt b1 (cl [.int .i64 (at_ : Int)] 3) * pt b2 (cl [.int .i64 (n : Int)] 3) * pt b3 (cl [.int .i64 8] 3), res0 rfl, fun _ _ h => h, rfl, .inl ⟨S, hp1, rfl⟩⟩
end Rg
theorem units_it {at_ n N b1 b2 b3 : Nat} (h1 : 1 ≤ n) (h2 : at_ + n ≤ 9223372036854775807) (hN : N = ((at_ + n - 1) / 8 - at_ / 8 + 1)) :
    Rg.It Try.prog 156 [] [.pointer (some ⟨b1, 0, none⟩), .pointer (some ⟨b2, 0, none⟩), .pointer (some ⟨b3, 0, none⟩)] (pt b1 (cl [.int .i64 (at_ : Int)] 3) * pt b2 (cl [.int .i64 (n : Int)] 3) * pt b3 (cl [.int .i64 8] 3)) N (fun i => [.int .i64 ((at_ / 8 + i : Nat) : Int)]) := fun l J X S0 h0 hY => by
  have hk : ∀ S : SP, S * (pt b1 (cl [.int .i64 (at_ : Int)] 3) * pt b2 (cl [.int .i64 (n : Int)] 3) * pt b3 (cl [.int .i64 8] 3)) = S * pt b1 (cl [.int .i64 (at_ : Int)] 3) * pt b2 (cl [.int .i64 (n : Int)] 3) * pt b3 (cl [.int .i64 8] 3) := fun S => star3 _ _ _ _
  rw [hk S0]
  refine (Rg.units1_f (J := J) (X := X) h1 h2 hN h0 hY).mono ?_
  rintro v B ⟨rfl, ⟨S, hS, rfl⟩ | ⟨S, hS, rfl⟩⟩
  · exact ⟨rfl, .inl ⟨S, hS, (hk S).symm⟩⟩
  · exact ⟨rfl, .inr ⟨S, hS, (hk S).symm⟩⟩
theorem units_c {A : SP} {at_ n : Nat} :
    Fn Try.prog 155 #[.int .i64 (at_ : Nat), .int .i64 (n : Nat), .int .i64 8] (A) (fun r B => ∃ b1 b2 b3, r = .func (.func 156) #[] #[.pointer (some ⟨b1, 0, none⟩), .pointer (some ⟨b2, 0, none⟩), .pointer (some ⟨b3, 0, none⟩)] ∧ B = A * (pt b1 (cl [.int .i64 (at_ : Int)] 3) * pt b2 (cl [.int .i64 (n : Int)] 3) * pt b3 (cl [.int .i64 8] 3))) := by
  refine fn_enterW (args := [.int .i64 (at_ : Nat), .int .i64 (n : Nat), .int .i64 8]) Try.func155 rfl Try.ntmps155 (by simp) ?_
  refine tc_seq ?_
  refine tc_reg ?_
  refine tl_x rfl (o_box rfl rfl) ?_
  rintro _ _ ⟨b3, rfl, rfl⟩
  refine tl_x rfl (o_box rfl rfl) ?_
  rintro _ _ ⟨b4, rfl, rfl⟩
  refine tl_x rfl (o_box rfl rfl) ?_
  rintro _ _ ⟨b5, rfl, rfl⟩
  refine tla ?_
  refine tl_nil ?_
  refine q_then_n ?_
  refine tc_seq ?_
  refine tc_reg ?_
  refine tl_v rfl (o_makeFunc rfl rfl) ?_
  refine tla ?_
  refine tl_nil ?_
  refine q_then_n ?_
  refine tc_ret ?_
  exact ⟨_, _, res1 rfl rfl, fun _ _ h => h, b3, b4, b5, rfl, (star3 _ _ _ _).symm⟩
theorem Words_c {A : SP} {at_ n : Nat} :
    Fn Try.prog 153 #[.int .i64 (at_ : Nat), .int .i64 (n : Nat)] (A) (fun r B => ∃ b1 b2 b3, r = .func (.func 156) #[] #[.pointer (some ⟨b1, 0, none⟩), .pointer (some ⟨b2, 0, none⟩), .pointer (some ⟨b3, 0, none⟩)] ∧ B = A * (pt b1 (cl [.int .i64 (at_ : Int)] 3) * pt b2 (cl [.int .i64 (n : Int)] 3) * pt b3 (cl [.int .i64 8] 3))) := by
  refine fn_enterW (args := [.int .i64 (at_ : Nat), .int .i64 (n : Nat)]) Try.func153 rfl Try.ntmps153 (by simp) ?_
  refine tc_seq ?_
  refine tc_reg ?_
  refine tla ?_
  refine tl_nil ?_
  refine q_then_n ?_
  refine tc_seq ?_
  refine tc_reg ?_
  refine tlm ?_
  refine tlm ?_
  refine tl_c rfl (o_call bd155 rfl (units_c)) ?_
  rintro _ _ ⟨b17, b27, b37, rfl, rfl⟩
  refine tla ?_
  refine tl_nil ?_
  refine q_then_n ?_
  refine tc_ret ?_
  exact ⟨_, _, res1 rfl rfl, fun _ _ h => h, b17, b27, b37, rfl, rfl⟩
namespace Rg
theorem Lines1_f {at_ n l0 N b1 b2 : Nat} {J : Nat → SP → Prop} {X : SP → Prop} {S0 : SP} (h1 : 1 ≤ n) (h2 : at_ + n ≤ 9223372036854775807) (hN : N = (at_ + n - 1) / 64 - at_ / 64 + 1) (h0 : J 0 S0) (hY : ∀ F i S, i < N → J i S → Yd Try.prog l0 #[.int .i64 ((at_ / 64 + i : Nat) : Int)] (F * S) (fun v B => ∃ (b : Bool) (S' : SP), v = .bool b ∧ (b = true → J (i + 1) S') ∧ (b = false → X S') ∧ B = F * S')) :
    Fn Try.prog 152 #[.func (.yield l0) #[] #[], .pointer (some ⟨b1, 0, none⟩), .pointer (some ⟨b2, 0, none⟩)] (S0 * pt b1 (cl [.int .i64 (at_ : Int)] 3) * pt b2 (cl [.int .i64 (n : Int)] 3)) (fun r B => r = .tuple #[] ∧ ((∃ S, J N S ∧ B = S * pt b1 (cl [.int .i64 (at_ : Int)] 3) * pt b2 (cl [.int .i64 (n : Int)] 3)) ∨ ∃ S, X S ∧ B = S * pt b1 (cl [.int .i64 (at_ : Int)] 3) * pt b2 (cl [.int .i64 (n : Int)] 3))) := by
  refine fn_enterW (args := [.func (.yield l0) #[] #[], .pointer (some ⟨b1, 0, none⟩), .pointer (some ⟨b2, 0, none⟩)]) Try.func152 rfl Try.ntmps152 (by simp) ?_
  refine tc_seq ?_
  refine tc_reg ?_
  refine tl_x rfl (o_box rfl rfl) ?_
  rintro _ _ ⟨b3, rfl, rfl⟩
  refine tl_nil ?_
  refine q_then_n ?_
  refine tc_seq ?_
  refine tc_reg ?_
  refine tl_x rfl (o_alloc z3 rfl) ?_
  rintro _ _ ⟨b4, rfl, rfl⟩
  refine tl_u rfl (o_stU rfl (by repeat (first | with_reducible exact upd_here | with_reducible exact upd_pt | apply upd_left)) sz3 rfl rfl (by first | decide | simp | omega) rfl) ?_
  refine tl_nil ?_
  refine q_then_n ?_
  refine tc_seq ?_
  refine tc_reg ?_
  refine tl_v rfl (by first | exact o_load p3 rfl (by repeat (first | with_reducible exact has_here | with_reducible exact has_pt | apply has_left)) rfl | exact o_loadC p3 rfl (by assumption)) ?_
  refine tl_v rfl (by first | exact o_load p3 rfl (by repeat (first | with_reducible exact has_here | with_reducible exact has_pt | apply has_left)) rfl | exact o_loadC p3 rfl (by assumption)) ?_
  refine tl_c rfl (o_call bd153 rfl (Words_c)) ?_
  rintro _ _ ⟨w1, w2, w3, rfl, rfl⟩
  refine tl_nil ?_
  refine q_then_n ?_
  refine tc_block ?_
  refine tc_rangeI (K := (pt w1 (cl [.int .i64 (at_ : Int)] 3) * pt w2 (cl [.int .i64 (n : Int)] 3) * pt w3 (cl [.int .i64 8] 3))) (N := ((at_ + n - 1) / 8 - at_ / 8 + 1)) (A0 := S0 * pt b1 (cl [.int .i64 (at_ : Int)] 3) * pt b2 (cl [.int .i64 (n : Int)] 3) * pt b3 (cl [.func (.yield l0) #[] #[]] 166) * pt b4 (cl [.int .i64 (-1)] 3)) (fun i S => ∃ (S1 : SP) (c : Nat) (ws : Int), (J c S1) ∧ ((i = 0 ∧ c = 0 ∧ ws = -1) ∨ (0 < i ∧ ws = (((at_ / 8 + i - 1) / 8 : Nat) : Int) ∧ c = (at_ / 8 + i - 1) / 8 - at_ / 64 + 1)) ∧ S = S1 * pt b1 (cl [.int .i64 (at_ : Int)] 3) * pt b2 (cl [.int .i64 (n : Int)] 3) * pt b3 (cl [.func (.yield l0) #[] #[]] 166) * pt b4 (cl [.int .i64 ws] 3)) (fun j S => ∃ (S1 : SP) (ws : Int), j = .ret ∧ (X S1) ∧ S = S1 * pt b1 (cl [.int .i64 (at_ : Int)] 3) * pt b2 (cl [.int .i64 (n : Int)] 3) * pt b3 (cl [.func (.yield l0) #[] #[]] 166) * pt b4 (cl [.int .i64 ws] 3)) rfl bd156 (units_it (N := ((at_ + n - 1) / 8 - at_ / 8 + 1)) h1 h2 rfl) (fun _ => rfl) rfl (Dr.sat (by repeat (first | with_reducible exact dr_refl | apply dr_keep | apply dr_drop))) (⟨S0, 0, -1, h0, by omega, rfl⟩) ?_ ?_ ?_
  · intro l F i S hi hI
    obtain ⟨S1, c, ws, hi0, hi1, rfl⟩ := hI
    refine tc_eq (by simp only [← star_assoc]; rfl) ?_
    have hcN : (at_ / 8 + i) / 8 - at_ / 64 < N := by omega
    refine tc_env (d := 10) (v := .int .i64 ((at_ / 8 + i : Nat) : Int)) rfl ?_
    refine tc_reg ?_
    refine tla ?_
    refine tl_nil ?_
    refine ⟨S1 * pt b1 (cl [.int .i64 (at_ : Int)] 3) * pt b2 (cl [.int .i64 (n : Int)] 3) * pt b3 (cl [.func (.yield l0) #[] #[]] 166) * pt b4 (cl [.int .i64 ws] 3), fun g w h => by simp only [← star_assoc]; exact Dr.sat (by repeat (first | with_reducible exact dr_refl | apply dr_keep | apply dr_drop)) g w h, fun F => ?_⟩
    refine tc_eq (by simp only [← star_assoc]; rfl) ?_
    refine tc_block ?_
    refine tc_seq ?_
    refine tc_reg ?_
    refine tlm ?_
    refine tl_v rfl (o_quoN (b := 8) rfl rfl (by omega)) ?_
    refine tla ?_
    refine tl_nil ?_
    refine q_then_n ?_
    refine tc_seq ?_
    refine tc_seq ?_
    refine tc_reg ?_
    refine tlm ?_
    refine tl_v rfl (by first | exact o_load p3 rfl (by repeat (first | with_reducible exact has_here | with_reducible exact has_pt | apply has_left)) rfl | exact o_loadC p3 rfl (by assumption)) ?_
    refine tl_v rfl (o_nei rfl rfl) ?_
    refine tlm ?_
    refine tl_bool (d := 16) rfl (fun h => ?_) (fun h => ?_)
    · have hne : (at_ / 8 + i) / 8 = at_ / 64 + c := by simp at h; omega
      refine tl_v rfl (by first | exact o_load p166 rfl (by repeat (first | with_reducible exact has_here | with_reducible exact has_pt | apply has_left)) rfl | exact o_loadC p166 rfl (by assumption)) ?_
      refine tlm ?_
      refine tl_env (d := 18) (v := .int .i64 ((at_ / 64 + c : Nat) : Int)) (congrArg (fun z : Nat => Value.int .i64 (z : Int)) hne) ?_
      refine tl_y rfl rfl rfl (yd_b (F := F * pt b1 (cl [.int .i64 (at_ : Int)] 3) * pt b2 (cl [.int .i64 (n : Int)] 3) * pt b3 (cl [.func (.yield l0) #[] #[]] 166) * pt b4 (cl [.int .i64 ws] 3)) (G := fun S' => F * S' * pt b1 (cl [.int .i64 (at_ : Int)] 3) * pt b2 (cl [.int .i64 (n : Int)] 3) * pt b3 (cl [.func (.yield l0) #[] #[]] 166) * pt b4 (cl [.int .i64 ws] 3)) (S := S1) (hY _ c S1 (by omega) hi0) (by ac_rfl) (fun S' => by ac_rfl)) ?_
      rintro _ _ ⟨b19, S2, rfl, hT, hF, rfl⟩
      refine tl_v rfl (o_not rfl) ?_
      refine tl_v rfl (o_pick_t rfl (by conv => lhs; whnf)) ?_
      refine tl_nil ?_
      refine q_then_n ?_
      refine tc_cond rfl (fun h => ?_) (fun h => ?_)
      · have hb : b19 = false := by simpa using h
        subst hb
        refine tc_ret ?_
        refine q_then_r (q_block_r ?_)
        exact ⟨(S2) * pt b1 (cl [.int .i64 (at_ : Int)] 3) * pt b2 (cl [.int .i64 (n : Int)] 3) * pt b3 (cl [.func (.yield l0) #[] #[]] 166) * pt b4 (cl [.int .i64 (ws)] 3), fun g w h => by simp only [← star_assoc]; exact Dr.sat (by repeat (first | with_reducible exact dr_refl | apply dr_keep | apply dr_drop)) g w h, S2, ws, rfl, hF rfl, rfl⟩
      · have hb : b19 = true := by simpa using h
        subst hb
        refine tc_skip ?_
        refine q_then_n ?_
        try rw [← hne]
        refine tc_reg ?_
        refine tlm ?_
        refine tl_u rfl (o_stU rfl (by repeat (first | with_reducible exact upd_here | with_reducible exact upd_pt | apply upd_left)) sz3 rfl rfl (by first | decide | simp | omega) rfl) ?_
        refine tl_nil ?_
        refine q_block_n ?_
        exact ⟨(S2) * pt b1 (cl [.int .i64 (at_ : Int)] 3) * pt b2 (cl [.int .i64 (n : Int)] 3) * pt b3 (cl [.func (.yield l0) #[] #[]] 166) * pt b4 (cl [.int .i64 ((((at_ / 8 + i) / 8 : Nat) : Int))] 3), fun g w h => by simp only [← star_assoc]; exact Dr.sat (by repeat (first | with_reducible exact dr_refl | apply dr_keep | apply dr_drop)) g w h, S2, c + 1, (((at_ / 8 + i) / 8 : Nat) : Int), hT rfl, by omega, rfl⟩
    · have hne : (((at_ / 8 + i) / 8 : Nat) : Int) = ws := by simpa using h
      refine tl_skip rfl ?_
      refine tl_skip rfl ?_
      refine tl_skip rfl ?_
      refine tl_skip rfl ?_
      refine tl_v rfl (o_pick_f rfl (by conv => lhs; whnf)) ?_
      refine tl_nil ?_
      refine q_then_n ?_
      refine tc_cond_f rfl ?_
      refine tc_skip ?_
      refine q_then_n ?_
      try rw [← hne]
      refine tc_reg ?_
      refine tlm ?_
      refine tl_u rfl (o_stU rfl (by repeat (first | with_reducible exact upd_here | with_reducible exact upd_pt | apply upd_left)) sz3 rfl rfl (by first | decide | simp | omega) rfl) ?_
      refine tl_nil ?_
      refine q_block_n ?_
      exact ⟨(S1) * pt b1 (cl [.int .i64 (at_ : Int)] 3) * pt b2 (cl [.int .i64 (n : Int)] 3) * pt b3 (cl [.func (.yield l0) #[] #[]] 166) * pt b4 (cl [.int .i64 ((((at_ / 8 + i) / 8 : Nat) : Int))] 3), fun g w h => by simp only [← star_assoc]; exact Dr.sat (by repeat (first | with_reducible exact dr_refl | apply dr_keep | apply dr_drop)) g w h, S1, c, (((at_ / 8 + i) / 8 : Nat) : Int), hi0, by omega, rfl⟩
  · intro r S hI
    obtain ⟨S1, c, ws, hi0, hi1, rfl⟩ := hI
    refine q_block_n ?_
    obtain rfl : c = N := by omega
    exact ⟨[r], S1 * pt b1 (cl [.int .i64 (at_ : Int)] 3) * pt b2 (cl [.int .i64 (n : Int)] 3), rfl, fun _ _ h => mk1 (Dr.sat (A' := S1 * pt b1 (cl [.int .i64 (at_ : Int)] 3) * pt b2 (cl [.int .i64 (n : Int)] 3) * pt r mkO) (by repeat (first | with_reducible exact dr_refl | apply dr_keep | apply dr_drop)) _ _ h), .tuple #[], S1 * pt b1 (cl [.int .i64 (at_ : Int)] 3) * pt b2 (cl [.int .i64 (n : Int)] 3), res0 rfl, fun _ _ h => h, rfl, .inl ⟨S1, hi0, rfl⟩⟩
  · intro r j S hX
    obtain ⟨S1, ws, rfl, hx0, rfl⟩ := hX
    refine jmp_r ?_
    refine q_block_r ?_
    exact ⟨[r], S1 * pt b1 (cl [.int .i64 (at_ : Int)] 3) * pt b2 (cl [.int .i64 (n : Int)] 3), rfl, fun _ _ h => mk1 (Dr.sat (A' := S1 * pt b1 (cl [.int .i64 (at_ : Int)] 3) * pt b2 (cl [.int .i64 (n : Int)] 3) * pt r mkO) (by repeat (first | with_reducible exact dr_refl | apply dr_keep | apply dr_drop)) _ _ h), .tuple #[], S1 * pt b1 (cl [.int .i64 (at_ : Int)] 3) * pt b2 (cl [.int .i64 (n : Int)] 3), res0 rfl, fun _ _ h => h, rfl, .inr ⟨S1, hx0, rfl⟩⟩
end Rg
theorem Lines_it {at_ n N b1 b2 : Nat} (h1 : 1 ≤ n) (h2 : at_ + n ≤ 9223372036854775807) (hN : N = (at_ + n - 1) / 64 - at_ / 64 + 1) :
    Rg.It Try.prog 152 [] [.pointer (some ⟨b1, 0, none⟩), .pointer (some ⟨b2, 0, none⟩)] (pt b1 (cl [.int .i64 (at_ : Int)] 3) * pt b2 (cl [.int .i64 (n : Int)] 3)) N (fun i => [.int .i64 ((at_ / 64 + i : Nat) : Int)]) := fun l J X S0 h0 hY => by
  have hk : ∀ S : SP, S * (pt b1 (cl [.int .i64 (at_ : Int)] 3) * pt b2 (cl [.int .i64 (n : Int)] 3)) = S * pt b1 (cl [.int .i64 (at_ : Int)] 3) * pt b2 (cl [.int .i64 (n : Int)] 3) := fun S => star2' _ _ _
  rw [hk S0]
  refine (Rg.Lines1_f (J := J) (X := X) h1 h2 hN h0 hY).mono ?_
  rintro v B ⟨rfl, ⟨S, hS, rfl⟩ | ⟨S, hS, rfl⟩⟩
  · exact ⟨rfl, .inl ⟨S, hS, (hk S).symm⟩⟩
  · exact ⟨rfl, .inr ⟨S, hS, (hk S).symm⟩⟩
theorem Lines_c {A : SP} {at_ n : Nat} :
    Fn Try.prog 144 #[.int .i64 (at_ : Nat), .int .i64 (n : Nat)] (A) (fun r B => ∃ b1 b2, r = .func (.func 152) #[] #[.pointer (some ⟨b1, 0, none⟩), .pointer (some ⟨b2, 0, none⟩)] ∧ B = A * (pt b1 (cl [.int .i64 (at_ : Int)] 3) * pt b2 (cl [.int .i64 (n : Int)] 3))) := by
  refine fn_enterW (args := [.int .i64 (at_ : Nat), .int .i64 (n : Nat)]) Try.func144 rfl Try.ntmps144 (by simp) ?_
  refine tc_seq ?_
  refine tc_reg ?_
  refine tl_x rfl (o_box rfl rfl) ?_
  rintro _ _ ⟨b2, rfl, rfl⟩
  refine tl_x rfl (o_box rfl rfl) ?_
  rintro _ _ ⟨b3, rfl, rfl⟩
  refine tla ?_
  refine tl_nil ?_
  refine q_then_n ?_
  refine tc_seq ?_
  refine tc_reg ?_
  refine tl_v rfl (o_makeFunc rfl rfl) ?_
  refine tla ?_
  refine tl_nil ?_
  refine q_then_n ?_
  refine tc_ret ?_
  exact ⟨_, _, res1 rfl rfl, fun _ _ h => h, b2, b3, rfl, (star2' _ _ _).symm⟩
end Go.Vl

set_option linter.unusedVariables false
set_option linter.unusedSimpArgs false
namespace Go.Vl
open Go Go.Proofs
theorem ct_wf2 {A R : SP} {C : SP → SP} {d : Nat} {s : DevS} (hc : Ct A (Dev d s) R C) {g : Gh} {w : World} (hs : sat g w A) : WfD s := by
  obtain ⟨rfl, _⟩ := hc; exact (dev_iff.1 hs).1
theorem doneS_len (s : DevS) : (doneS s).ls.length = s.ls.length := by
  unfold doneS
  split
  · rfl
  · split
    · rfl
    · simp [goesS, goPart_length]
theorem fl1_len (p : Int) (s : DevS) : (fl1 p s).2.ls.length = s.ls.length := by
  unfold fl1
  split
  · rfl
  · rw [doneS_len]; exact (onLine_fields _ _ s).2.2.2.2
/-- Lines are flushed, one behind the other; then the fence. -/
def flF : Nat → Nat → DevS → Int × DevS
  | 0, _, s => fe s
  | k + 1, q, s => if (fl1 ((q * 64 : Nat) : Int) s).1 ≠ 0 then fl1 ((q * 64 : Nat) : Int) s else flF k (q + 1) (fl1 ((q * 64 : Nat) : Int) s).2
theorem flF_zero (q : Nat) (s : DevS) : flF 0 q s = fe s := rfl
theorem flF_e {N i q : Nat} {s s2 : DevS} {e : Int} (hi : i < N) (h : fl1 (((q + i) * 64 : Nat) : Int) s = (e, s2)) (he : e ≠ 0) : flF (N - i) (q + i) s = (e, s2) := by
  rw [show N - i = (N - (i + 1)) + 1 by omega]
  show (if _ then _ else _) = _
  rw [h, if_pos he]
theorem flF_o {N i q : Nat} {s s2 : DevS} (hi : i < N) (h : fl1 (((q + i) * 64 : Nat) : Int) s = (0, s2)) : flF (N - i) (q + i) s = flF (N - (i + 1)) (q + (i + 1)) s2 := by
  rw [show N - i = (N - (i + 1)) + 1 by omega]
  show (if _ then _ else _) = _
  rw [h, if_neg (by simp)]; rfl
/-- A range is made to last. -/
def lastS (p m : Nat) (s : DevS) : Int × DevS := flF ((p + m - 1) / 64 - p / 64 + 1) (p / 64) s
attribute [local irreducible] Sl pt ro Dev imgS
namespace Rg
theorem last_c {A R : SP} {C : SP → SP} {d : Nat} {s : DevS} (hc : Ct A (Dev d s) R C := by repeat (first | with_reducible exact ct_here | apply ct_left)) {p m : Nat} (h1 : 1 ≤ m := by omega) (hpm : p + m ≤ s.ls.length * 64 := by omega) :
    Fn Try.prog 120 #[.pointer (some ⟨d, 0, none⟩), .int .i64 (p : Nat), .int .i64 (m : Nat)] (A) (fun r B => ∃ e s2, lastS p m s = (e, s2) ∧ r = .int .i64 e ∧ B = C (Dev d s2)) := by
  refine fn_enterW (args := [.pointer (some ⟨d, 0, none⟩), .int .i64 (p : Nat), .int .i64 (m : Nat)]) Try.func120 rfl Try.ntmps120 (by simp) ?_
  refine tc_have (fun _ _ h => ct_wf2 hc h) fun hw => ?_
  obtain ⟨rfl, hC⟩ := hc
  have htop := hw.top
  refine tc_seq ?_
  refine tc_reg ?_
  refine tl_x rfl (o_alloc z24 rfl) ?_
  rintro _ _ ⟨b6, rfl, rfl⟩
  refine tl_nil ?_
  refine q_then_n ?_
  refine tc_seq ?_
  refine tc_reg ?_
  refine tlm ?_
  refine tl_v rfl (o_makeFunc rfl rfl) ?_
  refine tl_x rfl (o_alloc z190 rfl) ?_
  rintro _ _ ⟨b7, rfl, rfl⟩
  refine tl_u rfl (o_stU rfl (by repeat (first | with_reducible exact upd_here | with_reducible exact upd_pt | apply upd_left)) sz190 rfl rfl (by first | decide | simp | omega) rfl) ?_
  refine tl_nil ?_
  refine q_then_n ?_
  refine tc_seq ?_
  refine tc_seq ?_
  refine tc_reg ?_
  refine tlm ?_
  refine tlm ?_
  refine tl_c rfl (o_call bd144 rfl (Lines_c)) ?_
  rintro _ _ ⟨w1, w2, rfl, rfl⟩
  refine tl_nil ?_
  refine q_then_n ?_
  refine tc_block ?_
  refine tc_rangeI (K := (pt w1 (cl [.int .i64 (p : Int)] 3) * pt w2 (cl [.int .i64 (m : Int)] 3))) (N := ((p + m - 1) / 64 - p / 64 + 1)) (A0 := R * Dev d s * pt b6 (cl [.int .i64 0] 24) * pt b7 (cl [.func (.func 87) #[.pointer (some ⟨d, 0, none⟩)] #[]] 190)) (fun i S => ∃ (s1 : DevS), (flF (((p + m - 1) / 64 - p / 64 + 1) - i) (p / 64 + i) s1 = flF ((p + m - 1) / 64 - p / 64 + 1) (p / 64) s) ∧ (s1.ls.length = s.ls.length) ∧ S = R * Dev d s1 * pt b6 (cl [.int .i64 0] 24) * pt b7 (cl [.func (.func 87) #[.pointer (some ⟨d, 0, none⟩)] #[]] 190)) (fun j S => ∃ (e : Int) (s1 : DevS), j = .ret ∧ (flF ((p + m - 1) / 64 - p / 64 + 1) (p / 64) s = (e, s1)) ∧ S = R * Dev d s1 * pt b6 (cl [.int .i64 e] 24) * pt b7 (cl [.func (.func 87) #[.pointer (some ⟨d, 0, none⟩)] #[]] 190)) rfl bd152 (Lines_it (N := ((p + m - 1) / 64 - p / 64 + 1)) h1 (by omega) rfl) (fun _ => rfl) rfl (Dr.sat (by repeat (first | with_reducible exact dr_refl | apply dr_keep | apply dr_drop))) (⟨s, rfl, rfl, rfl⟩) ?_ ?_ ?_
  · intro l F i S hi hI
    obtain ⟨s1, hi0, hi1, rfl⟩ := hI
    refine tc_eq (by simp only [← star_assoc]; rfl) ?_
    refine tc_env (d := 15) (v := .int .i64 ((p / 64 + i : Nat) : Int)) rfl ?_
    refine tc_reg ?_
    refine tla ?_
    refine tl_nil ?_
    refine ⟨R * Dev d s1 * pt b6 (cl [.int .i64 0] 24) * pt b7 (cl [.func (.func 87) #[.pointer (some ⟨d, 0, none⟩)] #[]] 190), fun g w h => by simp only [← star_assoc]; exact Dr.sat (by repeat (first | with_reducible exact dr_refl | apply dr_keep | apply dr_drop)) g w h, fun F => ?_⟩
    refine tc_eq (by simp only [← star_assoc]; rfl) ?_
    refine tc_block ?_
    refine tc_seq ?_
    refine tc_reg ?_
    refine tl_v rfl (by first | exact o_load p190 rfl (by repeat (first | with_reducible exact has_here | with_reducible exact has_pt | apply has_left)) rfl | exact o_loadC p190 rfl (by assumption)) ?_
    refine tlm ?_
    refine tl_v rfl (by first | exact o_mulI rfl rfl (by omega) | exact o_mul rfl rfl) ?_
    refine tl_env (d := 18) (v := .int .i64 (((p / 64 + i) * 64 : Nat) : Int)) (rfl) ?_
    refine tl_c rfl (o_dyn bd87 rfl rfl (Flush_c (s := s1) (p := (((p / 64 + i) * 64 : Nat) : Int)))) ?_
    rintro _ _ ⟨e19, s19, hs19, rfl, rfl⟩
    refine tla ?_
    refine tl_nil ?_
    refine q_then_n ?_
    refine tc_seq ?_
    refine tc_reg ?_
    refine tlm ?_
    refine tl_v rfl (o_nei rfl rfl) ?_
    refine tl_nil ?_
    refine q_then_n ?_
    refine tc_cond rfl (fun h => ?_) (fun h => ?_)
    · have h : e19 ≠ 0 := by simpa using h
      refine tc_seq ?_
      refine tc_reg ?_
      refine tlm ?_
      refine tl_u rfl (o_stU rfl (by repeat (first | with_reducible exact upd_here | with_reducible exact upd_pt | apply upd_left)) sz24 rfl rfl (by first | decide | simp | omega) rfl) ?_
      refine tl_nil ?_
      refine q_then_n ?_
      refine tc_ret ?_
      refine q_block_r ?_
      exact ⟨R * Dev d (s19) * pt b6 (cl [.int .i64 (e19)] 24) * pt b7 (cl [.func (.func 87) #[.pointer (some ⟨d, 0, none⟩)] #[]] 190), fun g w h => by simp only [← star_assoc]; exact Dr.sat (by repeat (first | with_reducible exact dr_refl | apply dr_keep | apply dr_drop)) g w h, e19, s19, rfl, by rw [← hi0]; exact flF_e hi hs19 h, rfl⟩
    · obtain rfl : e19 = 0 := by simpa using h
      refine tc_skip ?_
      refine q_block_n ?_
      exact ⟨R * Dev d (s19) * pt b6 (cl [.int .i64 0] 24) * pt b7 (cl [.func (.func 87) #[.pointer (some ⟨d, 0, none⟩)] #[]] 190), fun g w h => by simp only [← star_assoc]; exact Dr.sat (by repeat (first | with_reducible exact dr_refl | apply dr_keep | apply dr_drop)) g w h, s19, by rw [← hi0]; exact (flF_o hi hs19).symm, by have := fl1_len (((p / 64 + i) * 64 : Nat) : Int) s1; rw [hs19] at this; exact this.trans hi1, rfl⟩
  · intro r S hI
    obtain ⟨s1, hi0, hi1, rfl⟩ := hI
    refine q_block_n (q_then_n ?_)
    refine tc_seq ?_
    refine tc_reg ?_
    refine tlm ?_
    refine tl_c rfl (o_call bd47 rfl (Fence_c (s := s1))) ?_
    rintro _ _ ⟨e24, s24, hs24, rfl, rfl⟩
    have hlast : lastS p m s = (e24, s24) := by show flF _ _ _ = _; rw [← hi0, Nat.sub_self]; exact hs24
    refine tl_u rfl (o_stU rfl (by repeat (first | with_reducible exact upd_here | with_reducible exact upd_pt | apply upd_left)) sz24 rfl rfl (by first | decide | simp | omega) rfl) ?_
    refine tl_nil ?_
    refine q_then_n ?_
    refine tc_ret ?_
    exact ⟨[r], R * Dev d s24 * pt b6 (cl [.int .i64 e24] 24), rfl, fun _ _ h => mk1 (Dr.sat (A' := R * Dev d s24 * pt b6 (cl [.int .i64 e24] 24) * pt r mkO) (by repeat (first | with_reducible exact dr_refl | apply dr_keep | apply dr_drop)) _ _ h), .int .i64 e24, C (Dev d s24), resA1 rfl (rv_cell1 p24 rfl (by repeat (first | with_reducible exact has_here | with_reducible exact has_pt | apply has_left)) rfl), fun _ _ h => by rw [hC]; exact h.left, e24, s24, hlast, rfl, rfl⟩
  · intro r j S hX
    obtain ⟨e, s1, rfl, hx0, rfl⟩ := hX
    refine jmp_r ?_
    refine q_block_r (q_then_r ?_)
    exact ⟨[r], R * Dev d s1 * pt b6 (cl [.int .i64 e] 24), rfl, fun _ _ h => mk1 (Dr.sat (A' := R * Dev d s1 * pt b6 (cl [.int .i64 e] 24) * pt r mkO) (by repeat (first | with_reducible exact dr_refl | apply dr_keep | apply dr_drop)) _ _ h), .int .i64 e, C (Dev d s1), resA1 rfl (rv_cell1 p24 rfl (by repeat (first | with_reducible exact has_here | with_reducible exact has_pt | apply has_left)) rfl), fun _ _ h => by rw [hC]; exact h.left, e, s1, hx0, rfl, rfl⟩
end Rg
end Go.Vl

set_option linter.unusedVariables false
set_option linter.unusedSimpArgs false
namespace Go.Vl
open Go Go.Proofs
def insB (n : Nat) (p m : Int) : Bool := decide (0 ≤ p ∧ 0 ≤ m ∧ p ≤ (n : Int) * 64 ∧ m ≤ (n : Int) * 64 - p)
theorem stE_off {s : DevS} (h : stE s ≠ 0) : s.off = true := by
  unfold stE at h; by_cases e : s.off = true
  · exact e
  · rw [if_neg e] at h; exact absurd rfl h
theorem stE_on {s : DevS} (h : stE s = 0) : s.off = false := by
  unfold stE at h; by_cases e : s.off = true
  · rw [if_pos e] at h; exact absurd h (by decide)
  · simpa using e
theorem layS_len' (p v : Nat) (s : DevS) : (layS p v s).ls.length = s.ls.length := (onLine_fields _ _ s).2.2.2.2
theorem storeF_len : ∀ (f p : Nat) (b : List Nat) (s : DevS), (storeF f p b s).2.ls.length = s.ls.length
  | 0, _, _, _ => rfl
  | f + 1, p, b, s => by
    unfold storeF
    split
    · rfl
    · split
      · rw [doneS_len, layS_len']
      · rw [storeF_len, doneS_len, layS_len']
theorem sto_len (p : Int) (b : List Nat) (s : DevS) : (sto p b s).2.ls.length = s.ls.length := by
  unfold sto
  split
  · rfl
  · exact storeF_len _ _ _ _
theorem sto_rdy {p : Int} {b : List Nat} {s : DevS} (h : (sto p b s).1 = 0) : rdy s.ls.length s.off p b.length = 0 := by
  unfold sto at h
  split at h
  · exact h
  · rename_i h2; exact Classical.not_not.1 h2
/-- What Range, Bytes, Publish answer, and the device behind them. -/
def rangeP (p m : Int) (s : DevS) : Int × DevS := if s.off = true then (5, s) else if m < 1 then (0, s) else if rdy s.ls.length false p m ≠ 0 then (6, s) else lastS p.toNat m.toNat s
def bytesP (p : Int) (b : List Nat) (s : DevS) : Int × DevS := if s.off = true then (5, s) else if b = [] then (0, s) else if (sto p b s).1 ≠ 0 then sto p b s else lastS p.toNat b.length (sto p b s).2
def pubP (p : Int) (v : Nat) (s : DevS) : Int × DevS := if (st8 p v s).1 ≠ 0 then st8 p v s else lastS p.toNat 8 (st8 p v s).2
/-- A number of n bytes that is told. -/
def loadP (p : Int) (n : Nat) (s : DevS) : Nat × Int := if rdy s.ls.length s.off p n ≠ 0 then (0, rdy s.ls.length s.off p n) else (nm (((imgS s).drop p.toNat).take n), 0)
def wordP (p : Int) (s : DevS) : Nat × Int := if s.off = true then (0, 5) else if p % 8 ≠ 0 then (0, 6) else loadP p 8 s
attribute [local irreducible] Sl pt ro Dev imgS
theorem Bytes_c {A R : SP} {C : SP → SP} {d : Nat} {s : DevS} (hc : Ct A (Dev d s) R C := by repeat (first | with_reducible exact ct_here | apply ct_left)) {a : Option Addr} {c m : Nat} {p : Int} {xs : List Nat} (hr : Rs R a (bys xs) := by repeat (first | assumption | with_reducible exact rs_sl | with_reducible exact rs_pt0 | exact rs_none | apply Rs.left)) (hm : xs.length = m := by first | assumption | rfl) (hmc : m ≤ c := by first | assumption | omega) (hb : ∀ x ∈ xs, x < 256 := by assumption) (hml : m ≤ 140737488351232 := by omega) (hp : -9223372036854775808 ≤ p ∧ p ≤ 9223372036854775807 := by omega) (hroom : rdy s.ls.length s.off p m = 0 → Room m s := by assumption) :
    Fn Try.prog 56 #[.pointer (some ⟨d, 0, none⟩), .int .i64 p, .slice a m c] (A) (fun r B => ∃ e s2, bytesP p xs s = (e, s2) ∧ r = .int .i64 e ∧ B = C (Dev d s2)) := by
  refine fn_enterW (args := [.pointer (some ⟨d, 0, none⟩), .int .i64 p, .slice a m c]) Try.func56 rfl Try.ntmps56 (by simp) ?_
  refine tc_have (fun _ _ h => ct_wf2 hc h) fun hw => ?_
  obtain ⟨rfl, hC⟩ := hc
  have htop := hw.top
  have hpos := hw.pos
  have hAC : ∀ g w, sat g w (R * Dev d s) → sat g w (C (Dev d s)) := fun g w h => by rw [hC]; exact h
  subst hm
  refine tc_seq ?_
  refine tc_reg ?_
  refine tla ?_
  refine tl_nil ?_
  refine q_then_n ?_
  refine tc_seq ?_
  refine tc_seq ?_
  refine tc_reg ?_
  refine tlm ?_
  refine tl_c rfl (o_call bd119 rfl (alive_c (s := s))) ?_
  rintro _ _ ⟨rfl, rfl⟩
  refine tla ?_
  refine tl_nil ?_
  refine q_then_n ?_
  refine tc_seq ?_
  refine tc_reg ?_
  refine tlm ?_
  refine tl_v rfl (o_nei rfl rfl) ?_
  refine tl_nil ?_
  refine q_then_n ?_
  refine tc_cond rfl (fun h => ?_) (fun h => ?_)
  · try simp only [lv1, lv2, lv3, lv4, lv5, lv6, Bool.not_true, Bool.not_false] at h
    refine tc_seq ?_
    refine tc_reg ?_
    refine tlm ?_
    refine tla ?_
    refine tl_nil ?_
    refine q_then_n ?_
    refine tc_ret ?_
    refine q_then_r ?_
    exact ⟨.int .i64 (stE s), C (Dev d s), res1 rfl rfl, hAC, stE s, s, by have ho := stE_off h; unfold bytesP stE; rw [if_pos ho, if_pos ho], rfl, rfl⟩
  · have ho : s.off = false := stE_on (by simpa using h)
    refine tc_skip ?_
    refine q_then_n ?_
    refine tc_seq ?_
    refine tc_seq ?_
    refine tc_reg ?_
    refine tlm ?_
    refine tl_v rfl (o_len Try.underlying28 rfl) ?_
    refine tl_v rfl (o_eqi rfl rfl) ?_
    refine tl_nil ?_
    refine q_then_n ?_
    refine tc_cond rfl (fun h => ?_) (fun h => ?_)
    · try simp only [lv1, lv2, lv3, lv4, lv5, lv6, Bool.not_true, Bool.not_false] at h
      refine tc_seq ?_
      refine tc_reg ?_
      refine tla ?_
      refine tl_nil ?_
      refine q_then_n ?_
      refine tc_ret ?_
      refine q_then_r ?_
      exact ⟨.int .i64 0, C (Dev d s), res1 rfl rfl, hAC, 0, s, by unfold bytesP; rw [if_neg (by rw [ho]; decide), if_pos (List.eq_nil_of_length_eq_zero (by omega))], rfl, rfl⟩
    · have hne : xs ≠ [] := fun e => by subst e; simp at h
      have hl1 : 1 ≤ xs.length := List.length_pos_iff.2 hne
      refine tc_skip ?_
      refine q_then_n ?_
      refine tc_seq ?_
      refine tc_seq ?_
      refine tc_reg ?_
      refine tlm ?_
      refine tlm ?_
      refine tlm ?_
      refine tl_c rfl (o_call bd43 rfl (Store_c (s := s) (p := p) (xs := xs) (hr := hr) (hmc := hmc))) ?_
      rintro _ _ ⟨e20, s20, hs20, rfl, rfl⟩
      refine tla ?_
      refine tl_nil ?_
      refine q_then_n ?_
      refine tc_seq ?_
      refine tc_reg ?_
      refine tlm ?_
      refine tl_v rfl (o_nei rfl rfl) ?_
      refine tl_nil ?_
      refine q_then_n ?_
      refine tc_cond rfl (fun h => ?_) (fun h => ?_)
      · try simp only [lv1, lv2, lv3, lv4, lv5, lv6, Bool.not_true, Bool.not_false] at h
        refine tc_seq ?_
        refine tc_reg ?_
        refine tlm ?_
        refine tla ?_
        refine tl_nil ?_
        refine q_then_n ?_
        refine tc_ret ?_
        refine q_then_r ?_
        exact ⟨.int .i64 e20, C (Dev d s20), res1 rfl rfl, fun _ _ h => by rw [hC]; exact h, e20, s20, by unfold bytesP; rw [if_neg (by rw [ho]; decide), if_neg hne, hs20, if_pos (by simpa using h)], rfl, rfl⟩
      · obtain rfl : e20 = 0 := by simpa using h
        have hrd := rdy0 (sto_rdy (by rw [hs20]))
        have hsl := sto_len p xs s
        rw [hs20] at hsl
        simp only at hsl
        obtain ⟨q, rfl⟩ := Int.eq_ofNat_of_zero_le hrd.2.1
        refine tc_skip ?_
        refine q_then_n ?_
        refine tc_seq ?_
        refine tc_reg ?_
        refine tlm ?_
        refine tlm ?_
        refine tlm ?_
        refine tl_v rfl (o_len Try.underlying28 rfl) ?_
        refine tl_c rfl (o_call bd120 rfl (Rg.last_c (s := s20) (p := q) (m := xs.length))) ?_
        rintro _ _ ⟨e28, s28, hs28, rfl, rfl⟩
        refine tla ?_
        refine tl_nil ?_
        refine q_then_n ?_
        refine tc_ret ?_
        exact ⟨.int .i64 e28, C (Dev d s28), res1 rfl rfl, fun _ _ h => by rw [hC]; exact h, e28, s28, by unfold bytesP; rw [if_neg (by rw [ho]; decide), if_neg hne, hs20, if_neg (by simp)]; exact hs28, rfl, rfl⟩
end Go.Vl

set_option linter.unusedVariables false
set_option linter.unusedSimpArgs false
namespace Go.Vl
open Go Go.Proofs
/-- v is no device: nil, or one that no call has made. -/
def NoD (A : SP) (v : Value) : Prop := v = .pointer none ∨ ∃ b, v = .pointer (some ⟨b, 0, none⟩) ∧ Cell A b 0 (.slice none 0 0)
theorem NoD.left {A X : SP} {v : Value} (h : NoD A v) : NoD (A * X) v := h.imp id fun ⟨b, e, hc⟩ => ⟨b, e, hc.left⟩
theorem FromNo_c {A : SP} {a : Option Addr} {m c : Nat} (hno : fitsB (m : Nat) = false := by decide) (hm : m ≤ 140737488351232 := by omega) :
    Fn Try.prog 42 #[.slice a m c] (A) (fun r B => r = .tuple #[.pointer none, .int .i64 80] ∧ A = B) := by
  refine fn_enterW (args := [.slice a m c]) Try.func42 rfl Try.ntmps42 (by simp) ?_
  refine tc_seq ?_
  refine tc_reg ?_
  refine tla ?_
  refine tla ?_
  refine tl_nil ?_
  refine q_then_n ?_
  refine tc_seq ?_
  refine tc_reg ?_
  refine tlm ?_
  refine tl_v rfl (o_len Try.underlying28 rfl) ?_
  refine tl_c rfl (o_call bd51 rfl (NewNo_c)) ?_
  rintro _ _ ⟨rfl, rfl⟩
  refine tlm ?_
  refine tl_v rfl (o_extract rfl rfl) ?_
  refine tl_v rfl (o_extract rfl rfl) ?_
  refine tla ?_
  refine tla ?_
  refine tl_nil ?_
  refine q_then_n ?_
  refine tc_seq ?_
  refine tc_seq ?_
  refine tc_reg ?_
  refine tlm ?_
  refine tl_v rfl (o_nei rfl rfl) ?_
  refine tl_nil ?_
  refine q_then_n ?_
  refine tc_cond rfl (fun h => ?_) (fun h => ?_)
  · try simp only [lv1, lv2, lv3, lv4, lv5, lv6, Bool.not_true, Bool.not_false] at h
    refine tc_seq ?_
    refine tc_reg ?_
    refine tlm ?_
    refine tla ?_
    refine tla ?_
    refine tl_nil ?_
    refine q_then_n ?_
    refine tc_ret ?_
    refine q_then_r ?_
    exact ⟨_, _, res2 rfl rfl rfl, fun _ _ h => h, rfl, rfl⟩
  · (exfalso; first | (revert h; simp; done) | (simp at h; done) | (revert h; simp; omega) | (simp at h; omega) | omega)
end Go.Vl

set_option linter.unusedVariables false
set_option linter.unusedSimpArgs false
namespace Go.Vl
open Go Go.Proofs
theorem img_lt {s : DevS} : ∀ x ∈ imgS s, x < 256 := fun x hx => by
  unfold imgS img at hx
  obtain ⟨l, _, h⟩ := List.mem_flatMap.1 hx
  unfold lb at h
  obtain ⟨v, _, h⟩ := List.mem_flatMap.1 h
  exact le_bytes _ _ _ h
theorem imgS_len {s : DevS} (hw : WfD s) : (imgS s).length = s.ls.length * 64 := img_length hw.line
theorem img_sub {s : DevS} {p n : Nat} : ∀ x ∈ ((imgS s).drop p).take n, x < 256 := fun x hx => img_lt x (List.mem_of_mem_drop (List.mem_of_mem_take hx))
theorem nm_take0 (xs : List Nat) (n : Nat) : nm (((xs.take n).drop 0).take n) = nm (xs.take n) := by rw [List.drop_zero, List.take_take, Nat.min_self]
attribute [local irreducible] Sl pt ro Dev imgS
set_option maxRecDepth 20000 in
set_option maxHeartbeats 1000000 in
theorem FL64_ok {A R : SP} {C : SP → SP} {d : Nat} {s : DevS} (hc : Ct A (Dev d s) R C := by repeat (first | with_reducible exact ct_here | apply ct_left)) {p : Nat} (hoff : s.off = false) (hpm : p + 8 ≤ s.ls.length * 64) :
    Fn Try.prog 62 #[.agg [Value.int .i64 (p : Nat)].toArray, .pointer (some ⟨d, 0, none⟩)] (A) (fun r B => r = .tuple #[.int .u64 ((nm (((imgS s).drop p).take 8) : Nat) : Int), .int .i64 0] ∧ A = B) := by
  refine fn_enterW (args := [.agg [Value.int .i64 (p : Nat)].toArray, .pointer (some ⟨d, 0, none⟩)]) Try.func62 rfl Try.ntmps62 (by simp) ?_
  refine tc_have (fun _ _ h => ct_wf2 hc h) fun hw => ?_
  obtain ⟨rfl, hC⟩ := hc
  have htop := hw.top
  have hil : (imgS s).length = s.ls.length * 64 := imgS_len hw
  have hI : (((imgS s).drop p).take 8).length = 8 := by rw [List.length_take, List.length_drop]; omega
  have hIb := img_sub (s := s) (p := p) (n := 8)
  refine tc_seq ?_
  refine tc_reg ?_
  refine tl_x rfl (o_box rfl rfl) ?_
  rintro _ _ ⟨b2, rfl, rfl⟩
  refine tla ?_
  refine tla ?_
  refine tl_nil ?_
  refine q_then_n ?_
  refine tc_seq ?_
  refine tc_reg ?_
  refine tla ?_
  refine tl_nil ?_
  refine q_then_n ?_
  refine tc_seq ?_
  refine tc_regh mo dr_refl ?_
  show TH _ _ _ _ _ 12 #[false, false, false, false, false, false, false, false, false, false, false, false] _ _
  refine th_take (i := 0) (listed' := #[true, false, false, false, false, false, false, false, false, false, false, false]) rfl (by kernel_rfl) (by kernel_rfl) (by kernel_rfl) rfl rfl (o_move (by conv => lhs; whnf)) ?_
  refine th_take (i := 1) (listed' := #[true, true, false, false, false, false, false, false, false, false, false, false]) rfl (by kernel_rfl) (by kernel_rfl) (by kernel_rfl) rfl rfl (o_fieldAddr (o := 0) Try.underlying117 rfl rfl sz3 rfl) ?_
  refine th_take (i := 2) (listed' := #[true, true, true, false, false, false, false, false, false, false, false, false]) rfl (by kernel_rfl) (by kernel_rfl) (by kernel_rfl) rfl rfl (by first | exact o_load p3 rfl (by repeat (first | with_reducible exact has_here | with_reducible exact has_pt | apply has_left)) rfl | exact o_loadC p3 rfl (by assumption)) ?_
  refine th_take (i := 3) (listed' := #[true, true, true, true, false, false, false, false, false, false, false, false]) rfl (by kernel_rfl) (by kernel_rfl) (by kernel_rfl) rfl rfl (o_move (by conv => lhs; whnf)) ?_
  refine th_one (i := 4) (by kernel_rfl) ?_
  refine oh_c (i := 4) (listed' := #[true, true, true, true, true, false, false, false, false, false, false, false]) rfl rfl rfl (o_call bd99 rfl (Put64_c (xs := []) (v := 0))) ?_
  rintro _ _ ⟨a14, c14, rfl, hc14, rfl⟩
  refine ⟨by repeat (first | with_reducible exact dr_refl | apply dr_keep | apply dr_drop), ?_⟩
  refine th_take (i := 5) (listed' := #[true, true, true, true, true, true, false, false, false, false, false, false]) rfl (by kernel_rfl) (by kernel_rfl) (by kernel_rfl) rfl rfl (o_len Try.underlying28 rfl) ?_
  refine th_one (i := 6) (by kernel_rfl) ?_
  refine oh_c (i := 6) (listed' := #[true, true, true, true, true, true, true, false, false, false, false, false]) rfl rfl rfl (o_call bd27 rfl (Load_c (s := s) (p := p) (m := 8))) ?_
  rintro _ _ ⟨a16, c16, rfl, hc16, rfl⟩
  refine ⟨by repeat (first | with_reducible exact dr_refl | apply dr_keep | apply dr_drop), ?_⟩
  refine th_take (i := 7) (listed' := #[true, true, true, true, true, true, true, true, false, false, false, false]) rfl (by kernel_rfl) (by kernel_rfl) (by kernel_rfl) rfl rfl (o_move (by conv => lhs; whnf)) ?_
  refine th_take (i := 8) (listed' := #[true, true, true, true, true, true, true, true, true, false, false, false]) rfl (by kernel_rfl) (by kernel_rfl) (by kernel_rfl) rfl rfl (o_extract rfl rfl) ?_
  refine th_take (i := 9) (listed' := #[true, true, true, true, true, true, true, true, true, true, false, false]) rfl (by kernel_rfl) (by kernel_rfl) (by kernel_rfl) rfl rfl (o_extract rfl rfl) ?_
  refine th_take (i := 10) (listed' := #[true, true, true, true, true, true, true, true, true, true, true, false]) rfl (by kernel_rfl) (by kernel_rfl) (by kernel_rfl) rfl rfl (o_assign (by conv => lhs; whnf)) ?_
  refine th_take (i := 11) (listed' := #[true, true, true, true, true, true, true, true, true, true, true, true]) rfl (by kernel_rfl) (by kernel_rfl) (by kernel_rfl) rfl rfl (o_assign (by conv => lhs; whnf)) ?_
  refine th_done (by kernel_rfl) ?_
  refine q_then_n ?_
  refine tc_seq ?_
  refine tc_seq ?_
  refine tc_reg ?_
  refine tlm ?_
  refine tl_v rfl (o_nei rfl rfl) ?_
  refine tl_nil ?_
  refine q_then_n ?_
  refine tc_cond rfl (fun h => ?_) (fun h => ?_)
  · exfalso; simp at h
  · try simp only [lv1, lv2, lv3, lv4, lv5, lv6, Bool.not_true, Bool.not_false] at h
    refine tc_skip ?_
    refine q_then_n ?_
    refine tc_seq ?_
    refine tc_reg ?_
    refine tlm ?_
    refine tl_c rfl (o_call bd98 rfl (Take64_c (xs := ((imgS s).drop p).take 8) (p := 0) (hm := hI))) ?_
    rintro _ _ ⟨rfl, rfl⟩
    refine tl_v rfl (o_extract rfl rfl) ?_
    refine tl_v rfl (o_extract rfl rfl) ?_
    refine tla ?_
    refine tla ?_
    refine tl_nil ?_
    refine q_then_n ?_
    refine tc_ret ?_
    exact ⟨.tuple #[.int .u64 ((nm (((imgS s).drop p).take 8) : Nat) : Int), .int .i64 0], R * Dev d s, res2 rfl (congrArg (fun z : Nat => Value.int .u64 (z : Int)) (nm_take0 _ _)) rfl, Dr.sat (by repeat (first | with_reducible exact dr_refl | apply dr_keep | apply dr_drop)), rfl, rfl⟩
set_option maxRecDepth 20000 in
set_option maxHeartbeats 1000000 in
theorem FL64_no {A R : SP} {C : SP → SP} {d : Nat} {s : DevS} (hc : Ct A (Dev d s) R C := by repeat (first | with_reducible exact ct_here | apply ct_left)) {p : Int} (hp : -9223372036854775808 ≤ p ∧ p ≤ 9223372036854775807 := by omega) (hno : rdy s.ls.length s.off p 8 ≠ 0) :
    Fn Try.prog 62 #[.agg [Value.int .i64 p].toArray, .pointer (some ⟨d, 0, none⟩)] (A) (fun r B => r = .tuple #[.int .u64 0, .int .i64 (rdy s.ls.length s.off p 8)] ∧ A = B) := by
  refine fn_enterW (args := [.agg [Value.int .i64 p].toArray, .pointer (some ⟨d, 0, none⟩)]) Try.func62 rfl Try.ntmps62 (by simp) ?_
  obtain ⟨rfl, hC⟩ := hc
  refine tc_seq ?_
  refine tc_reg ?_
  refine tl_x rfl (o_box rfl rfl) ?_
  rintro _ _ ⟨b2, rfl, rfl⟩
  refine tla ?_
  refine tla ?_
  refine tl_nil ?_
  refine q_then_n ?_
  refine tc_seq ?_
  refine tc_reg ?_
  refine tla ?_
  refine tl_nil ?_
  refine q_then_n ?_
  refine tc_seq ?_
  refine tc_regh mo dr_refl ?_
  show TH _ _ _ _ _ 12 #[false, false, false, false, false, false, false, false, false, false, false, false] _ _
  refine th_take (i := 0) (listed' := #[true, false, false, false, false, false, false, false, false, false, false, false]) rfl (by kernel_rfl) (by kernel_rfl) (by kernel_rfl) rfl rfl (o_move (by conv => lhs; whnf)) ?_
  refine th_take (i := 1) (listed' := #[true, true, false, false, false, false, false, false, false, false, false, false]) rfl (by kernel_rfl) (by kernel_rfl) (by kernel_rfl) rfl rfl (o_fieldAddr (o := 0) Try.underlying117 rfl rfl sz3 rfl) ?_
  refine th_take (i := 2) (listed' := #[true, true, true, false, false, false, false, false, false, false, false, false]) rfl (by kernel_rfl) (by kernel_rfl) (by kernel_rfl) rfl rfl (by first | exact o_load p3 rfl (by repeat (first | with_reducible exact has_here | with_reducible exact has_pt | apply has_left)) rfl | exact o_loadC p3 rfl (by assumption)) ?_
  refine th_take (i := 3) (listed' := #[true, true, true, true, false, false, false, false, false, false, false, false]) rfl (by kernel_rfl) (by kernel_rfl) (by kernel_rfl) rfl rfl (o_move (by conv => lhs; whnf)) ?_
  refine th_one (i := 4) (by kernel_rfl) ?_
  refine oh_c (i := 4) (listed' := #[true, true, true, true, true, false, false, false, false, false, false, false]) rfl rfl rfl (o_call bd99 rfl (Put64_c (xs := []) (v := 0))) ?_
  rintro _ _ ⟨a14, c14, rfl, hc14, rfl⟩
  refine ⟨by repeat (first | with_reducible exact dr_refl | apply dr_keep | apply dr_drop), ?_⟩
  refine th_take (i := 5) (listed' := #[true, true, true, true, true, true, false, false, false, false, false, false]) rfl (by kernel_rfl) (by kernel_rfl) (by kernel_rfl) rfl rfl (o_len Try.underlying28 rfl) ?_
  refine th_one (i := 6) (by kernel_rfl) ?_
  refine oh_c (i := 6) (listed' := #[true, true, true, true, true, true, true, false, false, false, false, false]) rfl rfl rfl (o_call bd27 rfl (LoadNo_c (s := s) (p := p) (m := 8))) ?_
  rintro _ _ ⟨rfl, rfl⟩
  refine ⟨by repeat (first | with_reducible exact dr_refl | apply dr_keep | apply dr_drop), ?_⟩
  refine th_take (i := 7) (listed' := #[true, true, true, true, true, true, true, true, false, false, false, false]) rfl (by kernel_rfl) (by kernel_rfl) (by kernel_rfl) rfl rfl (o_move (by conv => lhs; whnf)) ?_
  refine th_take (i := 8) (listed' := #[true, true, true, true, true, true, true, true, true, false, false, false]) rfl (by kernel_rfl) (by kernel_rfl) (by kernel_rfl) rfl rfl (o_extract rfl rfl) ?_
  refine th_take (i := 9) (listed' := #[true, true, true, true, true, true, true, true, true, true, false, false]) rfl (by kernel_rfl) (by kernel_rfl) (by kernel_rfl) rfl rfl (o_extract rfl rfl) ?_
  refine th_take (i := 10) (listed' := #[true, true, true, true, true, true, true, true, true, true, true, false]) rfl (by kernel_rfl) (by kernel_rfl) (by kernel_rfl) rfl rfl (o_assign (by conv => lhs; whnf)) ?_
  refine th_take (i := 11) (listed' := #[true, true, true, true, true, true, true, true, true, true, true, true]) rfl (by kernel_rfl) (by kernel_rfl) (by kernel_rfl) rfl rfl (o_assign (by conv => lhs; whnf)) ?_
  refine th_done (by kernel_rfl) ?_
  refine q_then_n ?_
  refine tc_seq ?_
  refine tc_seq ?_
  refine tc_reg ?_
  refine tlm ?_
  refine tl_v rfl (o_nei rfl rfl) ?_
  refine tl_nil ?_
  refine q_then_n ?_
  refine tc_cond rfl (fun h => ?_) (fun h => ?_)
  · try simp only [lv1, lv2, lv3, lv4, lv5, lv6, Bool.not_true, Bool.not_false] at h
    refine tc_seq ?_
    refine tc_reg ?_
    refine tlm ?_
    refine tla ?_
    refine tla ?_
    refine tl_nil ?_
    refine q_then_n ?_
    refine tc_ret ?_
    refine q_then_r ?_
    exact ⟨.tuple #[.int .u64 0, .int .i64 (rdy s.ls.length s.off p 8)], R * Dev d s, res2 rfl rfl rfl, Dr.sat (by repeat (first | with_reducible exact dr_refl | apply dr_keep | apply dr_drop)), rfl, rfl⟩
  · exfalso; exact hno (by simpa using h)
theorem FL64_c {A R : SP} {C : SP → SP} {d : Nat} {s : DevS} (hc : Ct A (Dev d s) R C := by repeat (first | with_reducible exact ct_here | apply ct_left)) {p : Int} (hp : -9223372036854775808 ≤ p ∧ p ≤ 9223372036854775807 := by omega) : Fn Try.prog 62 #[.agg [Value.int .i64 p].toArray, .pointer (some ⟨d, 0, none⟩)] A (fun r B => r = .tuple #[.int .u64 (((loadP p 8 s).1 : Nat) : Int), .int .i64 (loadP p 8 s).2] ∧ A = B) := by
  by_cases h : rdy s.ls.length s.off p 8 = 0
  · have h0 := rdy0 h
    obtain ⟨q, rfl⟩ := Int.eq_ofNat_of_zero_le h0.2.1
    have e : loadP (q : Int) 8 s = (nm (((imgS s).drop q).take 8), 0) := by unfold loadP; rw [if_neg (by simpa using h)]; rfl
    rw [e]; exact FL64_ok hc h0.1 (by omega)
  · have e : loadP p 8 s = (0, rdy s.ls.length s.off p 8) := by unfold loadP; rw [if_pos (by simpa using h)]; rfl
    rw [e]; exact FL64_no hc hp (by simpa using h)
set_option maxRecDepth 20000 in
set_option maxHeartbeats 1000000 in
theorem Word_c {A R : SP} {C : SP → SP} {d : Nat} {s : DevS} (hc : Ct A (Dev d s) R C := by repeat (first | with_reducible exact ct_here | apply ct_left)) {p : Int} (hp : -9223372036854775808 ≤ p ∧ p ≤ 9223372036854775807 := by omega) :
    Fn Try.prog 57 #[.pointer (some ⟨d, 0, none⟩), .int .i64 p] (A) (fun r B => r = .tuple #[.int .u64 (((wordP p s).1 : Nat) : Int), .int .i64 (wordP p s).2] ∧ A = B) := by
  refine fn_enterW (args := [.pointer (some ⟨d, 0, none⟩), .int .i64 p]) Try.func57 rfl Try.ntmps57 (by simp) ?_
  refine tc_seq ?_
  refine tc_reg ?_
  refine tla ?_
  refine tla ?_
  refine tl_nil ?_
  refine q_then_n ?_
  refine tc_seq ?_
  refine tc_seq ?_
  refine tc_reg ?_
  refine tlm ?_
  refine tl_c rfl (o_call bd119 rfl (alive_c hc)) ?_
  rintro _ _ ⟨rfl, rfl⟩
  refine tla ?_
  refine tl_nil ?_
  refine q_then_n ?_
  refine tc_seq ?_
  refine tc_reg ?_
  refine tlm ?_
  refine tl_v rfl (o_nei rfl rfl) ?_
  refine tl_nil ?_
  refine q_then_n ?_
  refine tc_cond rfl (fun h => ?_) (fun h => ?_)
  · try simp only [lv1, lv2, lv3, lv4, lv5, lv6, Bool.not_true, Bool.not_false] at h
    refine tc_seq ?_
    refine tc_reg ?_
    refine tlm ?_
    refine tla ?_
    refine tla ?_
    refine tl_nil ?_
    refine q_then_n ?_
    refine tc_ret ?_
    refine q_then_r ?_
    have ho := stE_off h
    have e : wordP p s = (0, 5) := by unfold wordP; rw [if_pos ho]
    have e2 : stE s = 5 := by unfold stE; rw [if_pos ho]
    rw [e]
    exact ⟨.tuple #[.int .u64 0, .int .i64 5], A, res2 rfl rfl (congrArg (Value.int .i64) e2), fun _ _ h => h, rfl, rfl⟩
  · have ho : s.off = false := stE_on (by simpa using h)
    refine tc_skip ?_
    refine q_then_n ?_
    refine tc_seq ?_
    refine tc_seq ?_
    refine tc_reg ?_
    refine tlm ?_
    refine tl_v rfl (o_rem rfl rfl (by decide)) ?_
    refine tl_v rfl (o_nei rfl rfl) ?_
    refine tl_nil ?_
    refine q_then_n ?_
    refine tc_cond rfl (fun h => ?_) (fun h => ?_)
    · try simp only [lv1, lv2, lv3, lv4, lv5, lv6, Bool.not_true, Bool.not_false] at h
      refine tc_seq ?_
      refine tc_reg ?_
      refine tla ?_
      refine tla ?_
      refine tl_nil ?_
      refine q_then_n ?_
      refine tc_ret ?_
      refine q_then_r ?_
      have e : wordP p s = (0, 6) := by unfold wordP; rw [if_neg (by rw [ho]; decide), if_pos (fun e => h (by rw [Int.tmod_eq_zero_of_dvd (Int.dvd_of_emod_eq_zero e)]))]
      rw [e]
      exact ⟨.tuple #[.int .u64 0, .int .i64 6], A, res2 rfl rfl rfl, fun _ _ h => h, rfl, rfl⟩
    · try simp only [lv1, lv2, lv3, lv4, lv5, lv6, Bool.not_true, Bool.not_false] at h
      refine tc_skip ?_
      refine q_then_n ?_
      refine tc_seq ?_
      refine tc_reg ?_
      refine tlm ?_
      refine tl_v rfl (o_bS (l := [Value.int .i64 p]) (pv_cons (by conv => lhs; whnf) pv_nil) Try.underlying117 z117 (pl117 Try.underlying117) rfl) ?_
      refine tlm ?_
      refine tl_c rfl (o_call bd62 rfl (FL64_c hc (p := p))) ?_
      rintro _ _ ⟨rfl, rfl⟩
      refine tl_v rfl (o_extract rfl rfl) ?_
      refine tl_v rfl (o_extract rfl rfl) ?_
      refine tla ?_
      refine tla ?_
      refine tl_nil ?_
      refine q_then_n ?_
      refine tc_ret ?_
      have e : wordP p s = loadP p 8 s := by unfold wordP; rw [if_neg (by rw [ho]; decide), if_neg (fun e => e (Int.emod_eq_zero_of_dvd (Int.dvd_of_tmod_eq_zero (by simpa using h))))]
      rw [e]
      exact ⟨_, A, res2 rfl rfl rfl, Dr.sat (by repeat (first | with_reducible exact dr_refl | apply dr_keep | apply dr_drop)), rfl, rfl⟩
end Go.Vl

set_option linter.unusedVariables false
set_option linter.unusedSimpArgs false
namespace Go.Vl
open Go Go.Proofs
def wk1 : DevS := (bytesP 60 [1, 1, 1, 1, 1, 1, 1, 1] (newS 2)).2
def wk2 : DevS := (pubP 8 258 wk1).2
def wk3 : DevS := (crS [] wk2).2
def wk4 : DevS := { wk3 with off := false }
attribute [local irreducible] Sl pt ro Dev imgS
def nk1 : DevS := (crS [] (newS 1)).2
end Go.Vl

set_option linter.unusedVariables false
set_option linter.unusedSimpArgs false
namespace Go.Vl
open Go Go.Proofs
/-- The mark of a place. -/
def mk (i k : Nat) : Nat := (i * 31 + k * 7 + 1) % 256
/-- The marks of a list. -/
def mks (i n : Nat) : List Nat := (List.range n).map (mk i)
def mkL (j : Nat) (l : List Nat) : List Nat := mks j l.length
/-- Lists that bear their marks; the first of them is number j. -/
def PM : Nat → List Value → List Nat → SP
  | j, v :: vs, n :: ns => PM (j + 1) vs ns * Sl 1 v n (bys (mks j n))
  | _, [], [] => emp
  | _, _, _ => pure_ False
/-- Such lists, and what they were grown to. -/
def GP : Nat → List Value → List Value → List Nat → SP
  | j, v :: vs, g :: gs, n :: ns => GP (j + 1) vs gs ns * Gr v n (bys (mks j n)) g (n + 70) (bys (mks j (n + 70)))
  | _, [], [], [] => emp
  | _, _, _, _ => pure_ False
theorem parts_row {vs : List Value} {ls : List (List Nat)} {i : Nat} (h : vs.length = ls.length) (hi : i < ls.length) : ∃ R, (∀ A, A * Parts vs ls = A * R * Sl 1 (vs[i]'(by omega)) ls[i].length (bys ls[i])) ∧ ∀ A l, A * R * Sl 1 (vs[i]'(by omega)) l.length (bys l) = A * Parts vs (ls.set i l) := by
  obtain ⟨R, e1, e2⟩ := parts_get (vs := vs) (ls := ls) h hi
  refine ⟨R, fun A => by rw [e1, star_assoc], fun A l => ?_⟩
  have := e2 (vs[i]'(by omega)) l
  rw [set_getElem (by omega)] at this
  rw [this, star_assoc]
attribute [local irreducible] Sl SlR pt ro Parts Gr
end Go.Vl

set_option linter.unusedVariables false
set_option linter.unusedSimpArgs false
namespace Go.Vl
open Go Go.Proofs
theorem planT_five (n : Int) : ∃ r0 r1 r2 r3 r4 e : Int, planT n = ([r0, r1, r2, r3, r4], e) ∧ 0 ≤ r4 ∧ r4 ≤ 16384 := by
  by_cases h : 36992 ≤ n ∧ n ≤ 4194304 ∧ n % 64 = 0
  · exact ⟨_, _, _, _, _, _, planT_t h, by omega, by omega⟩
  · exact ⟨_, _, _, _, _, _, planT_f h, by omega, by omega⟩
theorem Plan_q {A : SP} {n e r0 r1 r2 r3 r4 : Int} (hp : planT n = ([r0, r1, r2, r3, r4], e)) : Fn Try.prog 18 #[.int .i64 n] A (fun r B => r = .tuple #[.agg (ints [r0, r1, r2, r3, r4]).toArray, .int .i64 e] ∧ A = B) := by
  have := Plan_c (A := A) (n := n); rw [hp] at this; exact this
theorem PlanR_q {A : SP} {n e r0 r1 r2 r3 r4 : Int} (hp : planT n = ([r0, r1, r2, r3, r4], e)) : Fn Try.prog 19 #[.int .i64 n] A (fun r B => r = .tuple #[.agg (ints [r0, r1, r2, r3, r4]).toArray, .int .i64 e] ∧ A = B) := by
  have := PlanR_c (A := A) (n := n); rw [hp] at this; exact this
attribute [local irreducible] crk crL crc Sl pt ro mbs sbB planT lineT
end Go.Vl

set_option linter.unusedVariables false
set_option linter.unusedSimpArgs false
namespace Go.Vl
open Go Go.Proofs
attribute [local irreducible] crk crL crc Sl pt ro mbs sbB planT Dev imgS
theorem Read_off {A R : SP} {C : SP → SP} {d : Nat} {s : DevS} (hc : Ct A (Dev d s) R C := by repeat (first | with_reducible exact ct_here | apply ct_left)) (hoff : s.off = true) :
    Fn Try.prog 48 #[.pointer (some ⟨d, 0, none⟩)] (A) (fun r B => r = .tuple #[.agg (ints [0, 0, 0, 0, 0]).toArray, .int .i64 5] ∧ A = B) := by
  refine fn_enterW (args := [.pointer (some ⟨d, 0, none⟩)]) Try.func48 rfl Try.ntmps48 (by simp) ?_
  have hst : stE s = 5 := if_pos hoff
  obtain ⟨rfl, hC⟩ := hc
  refine tc_seq ?_
  refine tc_reg ?_
  refine tl_x rfl (o_alloc z23 rfl) ?_
  rintro _ _ ⟨b2, rfl, rfl⟩
  refine tla ?_
  refine tl_nil ?_
  refine q_then_n ?_
  refine tc_seq ?_
  refine tc_seq ?_
  refine tc_reg ?_
  refine tlm ?_
  refine tl_c rfl (o_call bd102 rfl (state_c (s := s))) ?_
  rintro _ _ ⟨rfl, rfl⟩
  refine tl_env (d := 9) (v := .int .i64 5) (congrArg (Value.int .i64) hst) ?_
  refine tla ?_
  refine tl_nil ?_
  refine q_then_n ?_
  refine tc_seq ?_
  refine tc_reg ?_
  refine tlm ?_
  refine tl_v rfl (o_nei rfl rfl) ?_
  refine tl_nil ?_
  refine q_then_n ?_
  refine tc_cond rfl (fun h => ?_) (fun h => ?_)
  · try simp only [lv1, lv2, lv3, lv4, lv5, lv6, Bool.not_true, Bool.not_false] at h
    refine tc_seq ?_
    refine tc_reg ?_
    refine tl_v rfl (o_bS (l := ints [0, 0, 0, 0, 0]) pv_nil Try.underlying23 z23 (pl23 Try.underlying23) rfl) ?_
    refine tlm ?_
    refine tl_u rfl (o_stUN (l' := ints [0, 0, 0, 0, 0]) rfl (by repeat (first | with_reducible exact upd_here | with_reducible exact upd_pt | apply upd_left)) sz23 rfl rfl rfl (by simp) rfl) ?_
    refine tla ?_
    refine tl_nil ?_
    refine q_then_n ?_
    refine tc_ret ?_
    refine q_then_r ?_
    exact ⟨.tuple #[.agg (ints [0, 0, 0, 0, 0]).toArray, .int .i64 5], R * Dev d s, resA2 rfl (rv_cell a23 sz23 rfl (by repeat (first | with_reducible exact has_here | with_reducible exact has_pt | apply has_left)) (by show 5 ≤ 5; decide) rfl) (rv_tmp rfl), Dr.sat (by repeat (first | with_reducible exact dr_refl | apply dr_keep | apply dr_drop)), rfl, rfl⟩
  · exfalso; simp at h
theorem Read_no {A R : SP} {C : SP → SP} {d : Nat} {s : DevS} (hc : Ct A (Dev d s) R C := by repeat (first | with_reducible exact ct_here | apply ct_left)) {n : Nat} (hoff : s.off = false) (hlen : s.ls.length * 64 = n) (hn : ¬ (36992 ≤ (n : Int) ∧ (n : Int) ≤ 4194304 ∧ (n : Int) % 64 = 0)) :
    Fn Try.prog 48 #[.pointer (some ⟨d, 0, none⟩)] (A) (fun r B => r = .tuple #[.agg (ints [0, 0, 0, 0, 0]).toArray, .int .i64 100] ∧ A = B) := by
  refine fn_enterW (args := [.pointer (some ⟨d, 0, none⟩)]) Try.func48 rfl Try.ntmps48 (by simp) ?_
  have hst : stE s = 0 := by unfold stE; rw [hoff]; rfl
  refine tc_have (fun _ _ h => ct_wf2 hc h) fun hw => ?_
  have htop := hw.top
  obtain ⟨rfl, hC⟩ := hc
  refine tc_seq ?_
  refine tc_reg ?_
  refine tl_x rfl (o_alloc z23 rfl) ?_
  rintro _ _ ⟨b2, rfl, rfl⟩
  refine tla ?_
  refine tl_nil ?_
  refine q_then_n ?_
  refine tc_seq ?_
  refine tc_seq ?_
  refine tc_reg ?_
  refine tlm ?_
  refine tl_c rfl (o_call bd102 rfl (state_c (s := s))) ?_
  rintro _ _ ⟨rfl, rfl⟩
  refine tl_env (d := 9) (v := .int .i64 0) (congrArg (Value.int .i64) hst) ?_
  refine tla ?_
  refine tl_nil ?_
  refine q_then_n ?_
  refine tc_seq ?_
  refine tc_reg ?_
  refine tlm ?_
  refine tl_v rfl (o_nei rfl rfl) ?_
  refine tl_nil ?_
  refine q_then_n ?_
  refine tc_cond rfl (fun h => ?_) (fun h => ?_)
  · exfalso; simp at h
  · try simp only [lv1, lv2, lv3, lv4, lv5, lv6, Bool.not_true, Bool.not_false] at h
    refine tc_skip ?_
    refine q_then_n ?_
    refine tc_seq ?_
    refine tc_reg ?_
    refine tlm ?_
    refine tl_c rfl (o_call bd94 rfl (Size_c (s := s))) ?_
    rintro _ _ ⟨rfl, rfl⟩
    refine tl_env (d := 16) (v := .int .i64 (n : Int)) (congrArg (Value.int .i64) (by omega)) ?_
    refine tl_c rfl (o_call bd18 rfl (Plan_q (planT_f hn))) ?_
    rintro _ _ ⟨rfl, rfl⟩
    refine tlm ?_
    refine tl_v rfl (o_extract rfl rfl) ?_
    refine tl_v rfl (o_extract rfl rfl) ?_
    refine tl_x rfl (o_alloc z23 rfl) ?_
    rintro _ _ ⟨b5, rfl, rfl⟩
    refine tl_u rfl (o_stUN (l' := ints [0, 0, 0, 0, 0]) rfl (by repeat (first | with_reducible exact upd_here | with_reducible exact upd_pt | apply upd_left)) sz23 rfl rfl rfl (by simp) rfl) ?_
    refine tla ?_
    refine tl_nil ?_
    refine q_then_n ?_
    refine tc_seq ?_
    refine tc_seq ?_
    refine tc_reg ?_
    refine tlm ?_
    refine tl_v rfl (o_nei rfl rfl) ?_
    refine tl_nil ?_
    refine q_then_n ?_
    refine tc_cond rfl (fun h => ?_) (fun h => ?_)
    · try simp only [lv1, lv2, lv3, lv4, lv5, lv6, Bool.not_true, Bool.not_false] at h
      refine tc_seq ?_
      refine tc_reg ?_
      refine tl_v rfl (o_bS (l := ints [0, 0, 0, 0, 0]) pv_nil Try.underlying23 z23 (pl23 Try.underlying23) rfl) ?_
      refine tl_u rfl (o_stUN (l' := ints [0, 0, 0, 0, 0]) rfl (by repeat (first | with_reducible exact upd_here | with_reducible exact upd_pt | apply upd_left)) sz23 rfl rfl rfl (by simp) rfl) ?_
      refine tla ?_
      refine tl_nil ?_
      refine q_then_n ?_
      refine tc_ret ?_
      refine q_then_r ?_
      exact ⟨.tuple #[.agg (ints [0, 0, 0, 0, 0]).toArray, .int .i64 100], R * Dev d s, resA2 rfl (rv_cell a23 sz23 rfl (by repeat (first | with_reducible exact has_here | with_reducible exact has_pt | apply has_left)) (by show 5 ≤ 5; decide) rfl) (rv_tmp rfl), Dr.sat (by repeat (first | with_reducible exact dr_refl | apply dr_keep | apply dr_drop)), rfl, rfl⟩
    · exfalso; simp at h
/-- What Read and Root answer. -/
def rdA (s : DevS) : List Int × Int := if s.off = true then ([0, 0, 0, 0, 0], 5) else if 578 ≤ s.ls.length then rdT (s.ls.length * 64) (imgS s) else ([0, 0, 0, 0, 0], 100)
def rootA (s : DevS) : Nat × Int := if (rdA s).2 ≠ 0 then (0, (rdA s).2) else wordP 64 s
theorem rdT_len (n : Nat) (I : List Nat) : (rdT n I).1.length = 5 := by unfold rdT; split <;> rfl
theorem rdA_len (s : DevS) : (rdA s).1.length = 5 := by
  unfold rdA; split
  · rfl
  · split
    · exact rdT_len _ _
    · rfl
theorem Read_c {A R : SP} {C : SP → SP} {d : Nat} {s : DevS} (hc : Ct A (Dev d s) R C) : Fn Try.prog 48 #[.pointer (some ⟨d, 0, none⟩)] A (fun r B => r = .tuple #[.agg (ints (rdA s).1).toArray, .int .i64 (rdA s).2] ∧ A = B) := by
  intro g w hs
  have hw := ct_wf2 hc hs
  have htop := hw.top
  unfold rdA
  by_cases h1 : s.off = true
  · rw [if_pos h1]; exact Read_off hc h1 g w hs
  · rw [if_neg h1]
    by_cases h2 : 578 ≤ s.ls.length
    · rw [if_pos h2]; exact Read_ok hc (by simpa using h1) rfl (by omega) (by rw [imgS_len hw]) g w hs
    · rw [if_neg h2]; exact Read_no hc (by simpa using h1) rfl (by omega) g w hs
theorem five_i {l : List Int} (h : l.length = 5) : ∃ a b c d e, l = [a, b, c, d, e] := by
  match l, h with
  | [a, b, c, d, e], _ => exact ⟨a, b, c, d, e, rfl⟩
theorem Read_5 {A R : SP} {C : SP → SP} {d : Nat} {s : DevS} {l : List Int} {e : Int} (hc : Ct A (Dev d s) R C) (hr : rdA s = (l, e)) : Fn Try.prog 48 #[.pointer (some ⟨d, 0, none⟩)] A (fun r B => r = .tuple #[.agg (ints l).toArray, .int .i64 e] ∧ A = B) := by
  have := Read_c hc; rw [hr] at this; exact this
theorem Root_c {A R : SP} {C : SP → SP} {d : Nat} {s : DevS} (hc : Ct A (Dev d s) R C := by repeat (first | with_reducible exact ct_here | apply ct_left)) :
    Fn Try.prog 67 #[.pointer (some ⟨d, 0, none⟩)] (A) (fun r B => r = .tuple #[.int .u64 (((rootA s).1 : Nat) : Int), .int .i64 (rootA s).2] ∧ A = B) := by
  refine fn_enterW (args := [.pointer (some ⟨d, 0, none⟩)]) Try.func67 rfl Try.ntmps67 (by simp) ?_
  obtain ⟨q0, q1, q2, q3, q4, hq⟩ := five_i (rdA_len s)
  obtain ⟨e0, he0⟩ : ∃ e0, e0 = (rdA s).2 := ⟨_, rfl⟩
  have hrd : rdA s = ([q0, q1, q2, q3, q4], e0) := by rw [← hq, he0]
  obtain ⟨rfl, hC⟩ := hc
  refine tc_seq ?_
  refine tc_reg ?_
  refine tla ?_
  refine tla ?_
  refine tl_nil ?_
  refine q_then_n ?_
  refine tc_seq ?_
  refine tc_seq ?_
  refine tc_reg ?_
  refine tlm ?_
  refine tl_c rfl (o_call bd48 rfl (Read_5 (s := s) (by repeat (first | with_reducible exact ct_here | apply ct_left)) hrd)) ?_
  rintro _ _ ⟨rfl, rfl⟩
  refine tlm ?_
  refine tl_v rfl (o_extract rfl rfl) ?_
  refine tl_v rfl (o_extract rfl rfl) ?_
  refine tl_x rfl (o_alloc z23 rfl) ?_
  rintro _ _ ⟨b4, rfl, rfl⟩
  refine tl_u rfl (o_stUN (l' := ints [q0, q1, q2, q3, q4]) rfl (by repeat (first | with_reducible exact upd_here | with_reducible exact upd_pt | apply upd_left)) sz23 rfl rfl rfl (by simp) rfl) ?_
  refine tla ?_
  refine tl_nil ?_
  refine q_then_n ?_
  refine tc_seq ?_
  refine tc_reg ?_
  refine tlm ?_
  refine tl_v rfl (o_nei rfl rfl) ?_
  refine tl_nil ?_
  refine q_then_n ?_
  refine tc_cond rfl (fun h => ?_) (fun h => ?_)
  · try simp only [lv1, lv2, lv3, lv4, lv5, lv6, Bool.not_true, Bool.not_false] at h
    refine tc_seq ?_
    refine tc_reg ?_
    refine tlm ?_
    refine tla ?_
    refine tla ?_
    refine tl_nil ?_
    refine q_then_n ?_
    refine tc_ret ?_
    refine q_then_r ?_
    first
    | (have hp : rootA s = (0, e0) := by unfold rootA; rw [← he0, if_pos (by simpa using h)]
       rw [hp]; exact ⟨.tuple #[.int .u64 0, .int .i64 e0], R * Dev d s, res2 rfl rfl rfl, Dr.sat (by repeat (first | with_reducible exact dr_refl | apply dr_keep | apply dr_drop)), rfl, rfl⟩)
    | (have hp : rootA s = wordP 64 s := by unfold rootA; rw [← he0, if_neg (by simpa using h)]
       rw [hp]; exact ⟨.tuple #[.int .u64 (((wordP 64 s).1 : Nat) : Int), .int .i64 (wordP 64 s).2], R * Dev d s, res2 rfl rfl rfl, Dr.sat (by repeat (first | with_reducible exact dr_refl | apply dr_keep | apply dr_drop)), rfl, rfl⟩)
  · try simp only [lv1, lv2, lv3, lv4, lv5, lv6, Bool.not_true, Bool.not_false] at h
    refine tc_skip ?_
    refine q_then_n ?_
    refine tc_seq ?_
    refine tc_reg ?_
    refine tlm ?_
    refine tl_c rfl (o_call bd57 rfl (Word_c (s := s) (p := 64))) ?_
    rintro _ _ ⟨rfl, rfl⟩
    refine tl_v rfl (o_extract rfl rfl) ?_
    refine tl_v rfl (o_extract rfl rfl) ?_
    refine tla ?_
    refine tla ?_
    refine tl_nil ?_
    refine q_then_n ?_
    refine tc_ret ?_
    first
    | (have hp : rootA s = (0, e0) := by unfold rootA; rw [← he0, if_pos (by simpa using h)]
       rw [hp]; exact ⟨.tuple #[.int .u64 0, .int .i64 e0], R * Dev d s, res2 rfl rfl rfl, Dr.sat (by repeat (first | with_reducible exact dr_refl | apply dr_keep | apply dr_drop)), rfl, rfl⟩)
    | (have hp : rootA s = wordP 64 s := by unfold rootA; rw [← he0, if_neg (by simpa using h)]
       rw [hp]; exact ⟨.tuple #[.int .u64 (((wordP 64 s).1 : Nat) : Int), .int .i64 (wordP 64 s).2], R * Dev d s, res2 rfl rfl rfl, Dr.sat (by repeat (first | with_reducible exact dr_refl | apply dr_keep | apply dr_drop)), rfl, rfl⟩)
end Go.Vl

set_option linter.unusedVariables false
set_option linter.unusedSimpArgs false
namespace Go.Vl
open Go Go.Proofs
theorem lb_word {s : List Nat} {r : Nat} (h : r < s.length) (t : List Nat) : (((lb s ++ t).drop (8 * r)).take 8) = le 8 s[r] := by
  induction s generalizing r with
  | nil => simp at h
  | cons x s ih =>
    cases r with
    | zero =>
      show (((le 8 x ++ lb s) ++ t).drop 0).take 8 = le 8 x
      rw [List.drop_zero, List.append_assoc, List.take_append_of_le_length (by rw [le_length]; omega), List.take_of_length_le (by rw [le_length]; omega)]
    | succ r =>
      have e : 8 * (r + 1) = (le 8 x).length + 8 * r := by rw [le_length]; omega
      show (((le 8 x ++ lb s) ++ t).drop _).take 8 = _
      rw [e, List.append_assoc, ← List.drop_drop, List.drop_left]
      exact ih (by simpa using h)
end Go.Vl

set_option linter.unusedVariables false
set_option linter.unusedSimpArgs false
namespace Go.Vl
open Go Go.Proofs
theorem spl_in {α : Type} {l b : List α} {q r k : Nat} (h1 : r + b.length ≤ k) (h2 : q + k ≤ l.length) : spl l q (spl ((l.drop q).take k) r b) = spl l (q + r) b := by
  have h3 : ((l.drop q).take k).length = k := by rw [List.length_take, List.length_drop]; omega
  apply List.ext_getElem?
  intro i
  rw [spl_at (by rw [spl_length (by omega)]; omega), spl_at (by omega), spl_length (by omega), h3]
  by_cases h : q ≤ i ∧ i < q + k
  · rw [if_pos h, spl_at (by omega)]
    by_cases h' : r ≤ i - q ∧ i - q < r + b.length
    · rw [if_pos h', if_pos (by omega)]; congr 1; omega
    · rw [if_neg h', if_neg (by omega), List.getElem?_take, if_pos (by omega), List.getElem?_drop]; congr 1; omega
  · rw [if_neg h, spl_at (by omega), if_neg (by omega)]
theorem spl_app {α : Type} (a l b : List α) {n p q : Nat} (ha : a.length = n) (hq : q = n + p) : spl (a ++ l) q b = a ++ spl l p b := by
  subst ha hq
  unfold spl
  rw [List.take_length_add_append, Nat.add_assoc, List.drop_length_add_append]
  simp only [List.append_assoc]
theorem spl_head {α : Type} (a l b : List α) (h : a.length = b.length) : spl (a ++ l) 0 b = b ++ l := by
  unfold spl
  rw [List.take_zero, List.nil_append, Nat.zero_add, ← h, List.drop_left]
theorem lb_set : ∀ {s : List Nat} {k v : Nat}, k < s.length → lb (s.set k v) = spl (lb s) (8 * k) (le 8 v)
  | x :: s, 0, v, _ => (spl_head (le 8 x) (lb s) (le 8 v) (by rw [le_length, le_length])).symm
  | x :: s, k + 1, v, h => by
    have ih := lb_set (s := s) (k := k) (v := v) (by simpa using h)
    show le 8 x ++ lb (s.set k v) = _
    rw [ih]
    exact (spl_app (le 8 x) (lb s) (le 8 v) (le_length 8 x) (by omega)).symm
/-- How many words bytes touch. -/
def cw (p m : Nat) : Nat := if m = 0 then 0 else (p + m - 1) / 8 - p / 8 + 1
theorem spl_nil {α : Type} (l : List α) (p : Nat) : spl l p [] = l := by simp [spl]
theorem spl_take {l b : List Nat} {p i : Nat} (hi : i < b.length) (hp : p + b.length ≤ l.length) : (spl l p (b.take i)).set (p + i) b[i] = spl l p (b.take (i + 1)) := by
  apply List.ext_getElem?
  intro j
  have h1 : (b.take i).length = i := by rw [List.length_take]; omega
  have h2 : (b.take (i + 1)).length = i + 1 := by rw [List.length_take]; omega
  rw [spl_at (by omega), List.getElem?_set, spl_length (by omega)]
  by_cases hj : p + i = j
  · subst hj
    rw [if_pos rfl, if_pos (by omega), if_pos (by omega), show p + i - p = i by omega, List.getElem?_take, if_pos (by omega), List.getElem?_eq_getElem hi]
  · rw [if_neg hj, spl_at (by omega), h1, h2]
    by_cases h : p ≤ j ∧ j < p + i
    · rw [if_pos h, if_pos (by omega), List.getElem?_take, List.getElem?_take, if_pos (by omega), if_pos (by omega)]
    · rw [if_neg h, if_neg (by omega)]
/-- The image that the statement begins with. -/
def im (n : Nat) : List Nat := (List.range n).map fun i => (i + 1) % 256
theorem lineF_lb {xs : List Nat} (hb : ∀ x ∈ xs, x < 256) {i : Nat} (hi : i * 64 + 64 ≤ xs.length) : lb (seenL (lineF xs i)) = (xs.drop (i * 64)).take 64 := by
  have e : seenL (lineF xs i) = (List.replicate 8 0).mapIdx fun k _ => wordF xs i k := by simp [seenL, lineF]
  rw [e]
  have key : ∀ k, k ≤ 8 → lb (((List.replicate 8 0).mapIdx fun k _ => wordF xs i k).take k) = (xs.drop (i * 64)).take (k * 8) := by
    intro k
    induction k with
    | zero => intro _; simp [lb]
    | succ k ih =>
      intro hk
      rw [lb_take (by simp; omega), ih (by omega)]
      simp only [List.getElem_mapIdx, wordF]
      have h1 := le_nm ((xs.drop (i * 64 + k * 8)).take 8) (fun x hx => hb x (List.mem_of_mem_drop (List.mem_of_mem_take hx)))
      rw [List.length_take, List.length_drop, Nat.min_eq_left (by omega)] at h1
      rw [h1, show (k + 1) * 8 = k * 8 + 8 by omega, List.take_add, List.drop_drop]
  have := key 8 (by omega)
  rwa [List.take_of_length_le (by simp)] at this
theorem room_from {n m : Nat} {xs : List Nat} (h : m ≤ 4194304) : Room m (fromS n xs) := fun l hl => by
  obtain ⟨j, hj, rfl⟩ := List.mem_iff_getElem.1 hl
  simp only [fromS, List.getElem_mapIdx, lineF, List.length_singleton]; omega
end Go.Vl

set_option linter.unusedVariables false
set_option linter.unusedSimpArgs false
namespace Go.Vl
open Go Go.Proofs
/-! ### What all contents of the lines of a range have in common -/
/-- All contents of all lines have the bytes c from at_ on. -/
def Ag (at_ : Nat) (c : List Nat) (s : DevS) : Prop := ∀ x, x < c.length → ∀ l, s.ls[(at_ + x) / 64]? = some l → ∀ σ ∈ l.st, (lb σ)[(at_ + x) % 64]? = c[x]?
def AgI (at_ : Nat) (c : List Nat) (I : List Nat) : Prop := ∀ x, x < c.length → I[at_ + x]? = c[x]?
/-! ### Lines are flushed -/
/-- Lines from q on, k of them, flushed. -/
def flsh (k q : Nat) (ls : List LineS) : List LineS := ls.mapIdx fun i l => if q ≤ i ∧ i < q + k then flushL l else l
end Go.Vl

set_option linter.unusedVariables false
set_option linter.unusedSimpArgs false
namespace Go.Vl
open Go Go.Proofs
/-- Every line has one content alone. -/
def Cln (s : DevS) : Prop := ∀ l ∈ s.ls, l.st.length = 1
def chunk (q : Nat) (I : List Nat) : List Nat := (I.drop (q * 64)).take 64
/-- Every content of every line is as X says. -/
def Poss (X : Nat → List Nat → Prop) (s : DevS) : Prop := ∀ (q : Nat) (l : LineS), s.ls[q]? = some l → ∀ σ ∈ l.st, X q (lb σ)
theorem poss_sub {X : Nat → List Nat → Prop} {s s' : DevS} (h : Poss X s) (hs : ∀ (q : Nat) (l' : LineS), s'.ls[q]? = some l' → ∃ l : LineS, s.ls[q]? = some l ∧ ∀ σ ∈ l'.st, σ ∈ l.st) : Poss X s' := fun q l' hl' σ hσ => by
  obtain ⟨l, hl, hsub⟩ := hs _ _ hl'
  exact h q l hl σ (hsub σ hσ)
theorem goes_sub {kp : List Int} {s : DevS} (hw : WfD s) (q : Nat) (l' : LineS) (hl' : (goesS kp s).ls[q]? = some l') : ∃ l : LineS, s.ls[q]? = some l ∧ (∀ σ ∈ l'.st, σ ∈ l.st) ∧ l'.st.length = 1 := by
  simp only [goesS, goPart, List.getElem?_mapIdx] at hl'
  cases e : s.ls[q]? with
  | none => rw [e] at hl'; cases hl'
  | some l =>
    rw [e] at hl'
    simp only [Option.map_some, Option.some.injEq] at hl'
    have hq := (List.getElem?_eq_some_iff.1 e).1
    subst hl'
    rw [if_pos hq]
    refine ⟨l, rfl, fun σ hσ => ?_, rfl⟩
    have hp : 0 < l.st.length := List.length_pos_iff.2 (hw.line l (List.mem_of_getElem? e)).ne
    have hk := kOf_lt (keep := kp) (i := q) hp
    simp only [goL, List.mem_singleton] at hσ
    rw [hσ]; simp [List.getD, hk]
theorem goes_poss {kp : List Int} {s : DevS} {X : Nat → List Nat → Prop} (hw : WfD s) (h : Poss X s) : Poss X (goesS kp s) := poss_sub h fun q l' hl' => by
  obtain ⟨l, h1, h2, _⟩ := goes_sub hw q l' hl'; exact ⟨l, h1, h2⟩
theorem goes_cln {kp : List Int} {s : DevS} (hw : WfD s) : Cln (goesS kp s) := fun l hl => by
  obtain ⟨q, hq, rfl⟩ := List.mem_iff_getElem.1 hl
  obtain ⟨_, _, _, h⟩ := goes_sub hw q _ (List.getElem?_eq_getElem hq); exact h
/-- The state behind a loss. -/
def Lost (X : Nat → List Nat → Prop) (n : Nat) (s : DevS) : Prop := s.off = true ∧ WfD s ∧ Cln s ∧ Poss X s ∧ s.ls.length = n
theorem done_loss {X : Nat → List Nat → Prop} {s : DevS} (hw : WfD s) (h : Poss X s) : (doneE s = 0 ∧ (doneS s).ls = s.ls ∧ (doneS s).off = s.off) ∨ (doneE s = 5 ∧ Lost X s.ls.length (doneS s)) := by
  have hw' := doneS_wf hw
  have hl := doneS_len s
  unfold Lost doneE doneS at *
  cases e : s.arms with
  | nil => exact .inl ⟨rfl, rfl, rfl⟩
  | cons a ar =>
    simp only [e] at hw' hl ⊢
    by_cases c : wr64 (s.cnt + 1) < a.1
    · rw [if_pos c, if_pos c]; exact .inl ⟨rfl, rfl, rfl⟩
    · rw [if_neg c] at hw' hl
      rw [if_neg c, if_neg c]
      have hw2 : WfD { s with ops := wr64 (s.ops + 1), arms := ar, cnt := 0 } := by
        refine ⟨hw.pos, hw.top, hw.line, ?_, ?_, ?_⟩
        · have := hw.arms; rw [e] at this; simp at this ⊢; omega
        · intro x hx; exact hw.after x (by rw [e]; exact List.mem_cons_of_mem _ hx)
        · intro x hx; exact hw.keeps x (by rw [e]; exact List.mem_cons_of_mem _ hx)
      exact .inr ⟨rfl, rfl, hw', goes_cln hw2, goes_poss hw2 h, hl⟩
/-- What holds behind a store that went well, seen from before. -/
def Went (X : Nat → List Nat → Prop) (p m : Nat) (s s2 : DevS) : Prop := s2.off = false ∧ WfD s2 ∧ Poss X s2 ∧ s2.ls.length = s.ls.length ∧ ∀ q : Nat, (q + 1) * 64 ≤ p ∨ p + m ≤ q * 64 → s2.ls[q]? = s.ls[q]?
end Go.Vl

set_option linter.unusedVariables false
set_option linter.unusedSimpArgs false
namespace Go.Vl
open Go Go.Proofs
theorem old_heap' {W w : World} {g : Gh} (h : sat g w (old W)) {k : Nat} (hk : k < W.heap.size) : w.heap[k]? = W.heap[k]? := by
  obtain ⟨x, rfl, hx⟩ := h.hp
  have := Array.getElem?_eq_getElem hk
  rw [this]; exact hx _ _ true (by simp [this])
theorem cell_old' {W : World} {b off : Nat} {v : Value} (h : W.cell? ⟨b, off, none⟩ = some v) : Cell (old W) b off v := fun g w hs => by
  have hb : b < W.heap.size := by
    rcases Nat.lt_or_ge b W.heap.size with h1 | h1
    · exact h1
    · exfalso
      have : W.heap[b]? = none := Array.getElem?_eq_none h1
      simp [World.cell?, this] at h
  have := old_heap' hs hb
  rw [← h]; simp only [World.cell?, this]
theorem rs_old {W : World} {a : Addr} {xs : List Value} (h : ∀ i v, xs[i]? = some v → W.cell? (a.add i) = some v) : Rs (old W) (some a) xs := by
  cases xs with
  | nil => exact rs_nil
  | cons x l =>
    obtain ⟨b, off, spot⟩ := a
    have h0 := h 0 x rfl
    have hspot : spot = none := by simpa [Addr.add] using World.cell?_spot h0
    subst hspot
    refine fun g w hs i v hv => ⟨b, off, rfl, ?_⟩
    have := h i v hv
    rw [WideShapes.add_plain] at this
    exact cell_old' this g w hs
/-- Whatever lies there as a value of type t, by the argument's own reading, r holds of. -/
def Rdb {α : Type} (P : Program) (W : World) (t : TypeId) (r : List Value → α → Prop) : Prop :=
  ∀ (H : Type) (enc : TypeId × Value → H) (spare : Nat → Bool) (held : Bool) (fuel : Nat) (cs : List Value) (d : DataW H) (pl : List MemPlace),
    DataW.trod enc P W 0 spare held fuel t cs = some (d, pl) → (∀ n ∈ d.weights P t, n ≤ reachBytes) → ∃ x, r cs x
theorem Rdb.mono {α β : Type} {P : Program} {W : World} {t : TypeId} {r : List Value → α → Prop} {q : List Value → β → Prop} (h : Rdb P W t r) (k : ∀ cs x, r cs x → ∃ y, q cs y) : Rdb P W t q :=
  fun H enc sp hd fu cs d pl h1 h2 => by obtain ⟨x, hx⟩ := h H enc sp hd fu cs d pl h1 h2; exact k cs x hx
def PInt (k : IntKind) (cs : List Value) (n : Int) : Prop := cs = [.int k n] ∧ (Lit.int k n).wf = true
theorem rdb_int {P : Program} {W : World} {t : TypeId} {k : IntKind} (ht : P.underlying t = some (.int k)) : Rdb P W t (PInt k) := fun H enc sp hd fu cs d pl h _ => by
  obtain ⟨n, e, _, hw⟩ := DataW.trod_int ht h
  exact ⟨n, e, hw⟩
def PBool (cs : List Value) (b : Bool) : Prop := cs = [.bool b]
theorem rdb_bool {P : Program} {W : World} {t : TypeId} (ht : P.underlying t = some .bool) : Rdb P W t PBool := fun H enc sp hd fu cs d pl h _ => by
  obtain ⟨b, e, _⟩ := DataW.trod_bool ht h
  exact ⟨b, e⟩
/-- A slice: its elements' cells, and what each is. -/
def PSl {α : Type} (A : SP) (k b : Nat) (r : List Value → α → Prop) (cs : List Value) (xs : List α) : Prop :=
  ∃ (a : Option Addr) (cap : Nat) (Cs : List (List Value)), cs = [.slice a xs.length cap] ∧ xs.length ≤ cap ∧ xs.length * b ≤ reachBytes ∧ Cs.length = xs.length ∧ (∀ i (h : i < xs.length) (h' : i < Cs.length), Cs[i].length = k ∧ r Cs[i] xs[i]) ∧ Rs A a Cs.flatten
theorem weightsAll_mem {H : Type} {P : Program} {e : TypeId} : ∀ {l : List (DataW H)} {d : DataW H}, d ∈ l → ∀ n ∈ d.weights P e, n ∈ DataW.weightsAll P e l
  | x :: l, d, h, n, hn => by
    simp only [DataW.weightsAll, List.mem_append]
    rcases List.mem_cons.1 h with rfl | h
    · exact .inl hn
    · exact .inr (weightsAll_mem h n hn)
theorem flat_at {k : Nat} : ∀ {Cs : List (List Value)} (_ : ∀ c ∈ Cs, c.length = k) {i j : Nat} (_ : j < k) (hi : i < Cs.length), Cs.flatten[i * k + j]? = Cs[i][j]?
  | c :: Cs, h, 0, j, hj, _ => by
    rw [Nat.zero_mul, Nat.zero_add, List.flatten_cons, List.getElem?_append_left (by rw [h c (by simp)]; exact hj)]; rfl
  | c :: Cs, h, i + 1, j, hj, hi => by
    have hc := h c (by simp)
    rw [List.flatten_cons, List.getElem?_append_right (by rw [hc, Nat.add_mul]; omega), hc, show (i + 1) * k + j - k = i * k + j by rw [Nat.add_mul]; omega]
    exact flat_at (fun x hx => h x (List.mem_cons_of_mem _ hx)) hj (by simpa using hi)
theorem flat_length {k : Nat} : ∀ {Cs : List (List Value)} (_ : ∀ c ∈ Cs, c.length = k), Cs.flatten.length = Cs.length * k
  | [], _ => by simp
  | c :: Cs, h => by
    rw [List.flatten_cons, List.length_append, h c (by simp), flat_length (fun x hx => h x (List.mem_cons_of_mem _ hx)), List.length_cons, Nat.add_mul]; omega
theorem rdb_slice {α : Type} {P : Program} {W : World} {t e : TypeId} {k b : Nat} {r : List Value → α → Prop} (ht : P.underlying t = some (.slice e)) (hk : P.cellsOf e = k) (hb : P.bytesOf e = b) (hk0 : 0 < k) (hr : Rdb P W e r) : Rdb P W t (PSl (old W) k b r) := fun H enc sp hd fu cs d pl h hw => by
  rcases Deep.open_slice ht h with ⟨rfl, _⟩ | ⟨a, len, cap, m, n, D, Pl, rfl, _, hl, _, hm, hx, hel⟩
  · exact ⟨[], none, 0, [], rfl, Nat.le_refl _, by simp, rfl, fun i h => by simp at h, rs_nil⟩
  · have hlm : len ≤ m := by rw [hm]; split <;> omega
    simp only [Prod.mk.injEq] at hx
    obtain ⟨rfl, _⟩ := hx
    have hall : ∀ n ∈ DataW.weights P t (DataW.slice ((List.range len).map D) ((List.range (m - len)).map fun j => D (len + j))), n ≤ reachBytes := hw
    have hw1 : (len + (m - len)) * P.bytesOf e ≤ reachBytes := by
      have := hall ((len + (m - len)) * P.bytesOf e) (by simp [DataW.weights, ht])
      exact this
    have hex : ∀ i, i < len → ∃ p : List Value × α, p.1.length = k ∧ r p.1 p.2 ∧ ∀ j v, p.1[j]? = some v → W.cell? (a.add (i * k + j)) = some v := fun i hi => by
      obtain ⟨cs', h1, h2⟩ := hel i (by omega)
      rw [hk] at h1
      obtain ⟨_, hlen, h3⟩ := World.cells?_some h1
      obtain ⟨x, hx⟩ := hr H enc sp hd n cs' (D i) (Pl i) h2 (fun n hn => hall n (by
        simp only [DataW.weights, ht, List.mem_cons, List.mem_append]
        refine .inr (.inl (weightsAll_mem (d := D i) ?_ n hn))
        exact List.mem_map.2 ⟨i, List.mem_range.2 hi, rfl⟩))
      refine ⟨(cs', x), hlen, hx, fun j v hv => ?_⟩
      have hj : j < k := by have h9 : j < cs'.length := lt_at hv; omega
      have := h3 j hj
      rw [Deep.add_add] at this
      rw [this, hv]
    rcases Nat.eq_zero_or_pos len with h0 | h0
    · subst h0
      exact ⟨[], some a, cap, [], rfl, Nat.zero_le _, by simp, rfl, fun i h => by simp at h, rs_nil⟩
    · obtain ⟨p0, _⟩ := hex 0 h0
      haveI : Inhabited (List Value × α) := ⟨p0⟩
      obtain ⟨f, hf⟩ := Deep.choose_lt hex
      refine ⟨(List.range len).map fun i => (f i).2, some a, cap, (List.range len).map fun i => (f i).1, by simp, by simpa using hl, ?_, by simp, fun i h h' => ?_, rs_old fun i v hv => ?_⟩
      · simp only [List.length_map, List.length_range, ← hb]
        exact Nat.le_trans (Nat.mul_le_mul_right _ (by omega)) hw1
      · simp only [List.length_map, List.length_range] at h
        simp only [List.getElem_map, List.getElem_range]
        exact ⟨(hf i h).1, (hf i h).2.1⟩
      · have hCk : ∀ c ∈ (List.range len).map fun i => (f i).1, c.length = k := fun c hc => by
          obtain ⟨i, hi, rfl⟩ := List.mem_map.1 hc
          exact (hf i (List.mem_range.1 hi)).1
        have hi := lt_at hv
        rw [flat_length hCk, List.length_map, List.length_range] at hi
        have hq : i / k < len := Nat.div_lt_of_lt_mul (by rw [Nat.mul_comm]; exact hi)
        have hm2 : i % k < k := Nat.mod_lt _ hk0
        have e : i = i / k * k + i % k := (Nat.div_add_mod' i k).symm
        rw [e, flat_at hCk hm2 (by simpa using hq)] at hv
        simp only [List.getElem_map, List.getElem_range] at hv
        rw [e]
        exact (hf (i / k) hq).2.2 _ v hv
/-- The fields of a struct, one by one. -/
theorem rdb_fields {P : Program} {W : World} {t : TypeId} {fs : Array Field} (ht : P.underlying t = some (.struct fs)) {H : Type} {enc : TypeId × Value → H} {sp : Nat → Bool} {hd : Bool} {fu : Nat} {cs : List Value} {d : DataW H} {pl : List MemPlace}
    (h : DataW.trod enc P W 0 sp hd fu t cs = some (d, pl)) (hw : ∀ n ∈ d.weights P t, n ≤ reachBytes) : cs.length = P.cellsOf t ∧
    ∀ (j : Nat) (f : Field), fs[j]? = some f → ∀ {α : Type} {r : List Value → α → Prop}, Rdb P W f.type r → ∃ x, r ((cs.drop f.offset).take (P.cellsOf f.type)) x := by
  obtain ⟨xs, n, _, hx, hl, hlen, hf⟩ := DataW.trod_struct ht h
  refine ⟨hl, fun j f hj α r hr => ?_⟩
  simp only [Prod.mk.injEq] at hx
  obtain ⟨rfl, _⟩ := hx
  have hj' : j < xs.length := by
    have h1 : j < fs.size := (Array.getElem?_eq_some_iff.1 hj).1
    have h2 : xs.length = fs.size := by simpa using hlen
    omega
  have := hf j f hj
  rw [List.getElem?_eq_getElem hj'] at this
  refine hr H enc sp hd n _ xs[j].1 xs[j].2 this (fun m hm => hw m ?_)
  simp only [DataW.weights, ht]
  exact DataW.weights_mem_each (ts := fs.toList.map (·.type)) (ds := xs.map (·.1)) (j := j) (t := f.type) (d := xs[j].1) (by simp [hj]) (by simp [hj']) m hm
theorem flat1 {α : Type} {r : List Value → α → Prop} {f : α → Value} : ∀ {Cs : List (List Value)} {xs : List α} (_ : Cs.length = xs.length) (_ : ∀ i (h : i < xs.length) (h' : i < Cs.length), Cs[i] = [f xs[i]]), Cs.flatten = xs.map f
  | [], [], _, _ => rfl
  | c :: Cs, x :: xs, hl, h => by
    have h0 := h 0 (by simp) (by simp)
    simp only [List.getElem_cons_zero] at h0
    rw [List.flatten_cons, h0, flat1 (r := r) (f := f) (Cs := Cs) (xs := xs) (by simpa using hl) (fun i hi hi' => h (i + 1) (by simpa using hi) (by simpa using hi'))]; rfl
/-- Bytes. -/
def PBys (A : SP) (cs : List Value) (xs : List Nat) : Prop := ∃ a cap, cs = [.slice a xs.length cap] ∧ xs.length ≤ cap ∧ xs.length ≤ 140737488351232 ∧ Rs A a (bys xs) ∧ ∀ x ∈ xs, x < 256
def PInts (A : SP) (cs : List Value) (xs : List Int) : Prop := ∃ a cap, cs = [.slice a xs.length cap] ∧ xs.length ≤ cap ∧ xs.length ≤ 17592186043904 ∧ Rs A a (ints xs) ∧ ∀ x ∈ xs, -9223372036854775808 ≤ x ∧ x ≤ 9223372036854775807
theorem i64_wf {x : Int} (h : (Lit.int .i64 x).wf = true) : -9223372036854775808 ≤ x ∧ x ≤ 9223372036854775807 := Go.bounds_i64 h
theorem rdb_bys {P : Program} {W : World} {t e : TypeId} (ht : P.underlying t = some (.slice e)) (he : P.underlying e = some (.int .u8)) (hk : P.cellsOf e = 1) (hb : P.bytesOf e = 1) : Rdb P W t (PBys (old W)) :=
  (rdb_slice ht hk hb (by decide) (rdb_int he)).mono fun cs zs ⟨a, cap, Cs, e1, hc, hs, hl, hx, hr⟩ => by
    have hz : ∀ z ∈ zs, 0 ≤ z ∧ z ≤ 255 := fun z hz => by
      obtain ⟨i, hi, rfl⟩ := List.mem_iff_getElem.1 hz
      exact Go.bounds_u8 (hx i hi (by omega)).2.2
    have e2 : Cs.flatten = bys (zs.map Int.toNat) := by
      rw [flat1 (r := PInt .u8) (f := fun z : Int => .int .u8 z) hl (fun i h h' => (hx i h h').2.1), bys, List.map_map]
      refine List.map_congr_left fun z hzm => ?_
      have := hz z hzm
      simp only [Function.comp, b8]; congr 1; omega
    refine ⟨zs.map Int.toNat, a, cap, by simpa using e1, by simpa using hc, ?_, by rw [← e2]; exact hr, fun x hx => ?_⟩
    · simp only [List.length_map]; unfold reachBytes at hs; omega
    · obtain ⟨z, hzm, rfl⟩ := List.mem_map.1 hx
      have := hz z hzm; omega
theorem rdb_ints {P : Program} {W : World} {t e : TypeId} (ht : P.underlying t = some (.slice e)) (he : P.underlying e = some (.int .i64)) (hk : P.cellsOf e = 1) (hb : P.bytesOf e = 8) : Rdb P W t (PInts (old W)) :=
  (rdb_slice ht hk hb (by decide) (rdb_int he)).mono fun cs zs ⟨a, cap, Cs, e1, hc, hs, hl, hx, hr⟩ => by
    refine ⟨zs, a, cap, e1, hc, by unfold reachBytes at hs; omega, ?_, fun z hz => ?_⟩
    · rw [show ints zs = Cs.flatten from (flat1 (r := PInt .i64) (f := fun z : Int => .int .i64 z) hl (fun i h h' => (hx i h h').2.1)).symm]; exact hr
    · obtain ⟨i, hi, rfl⟩ := List.mem_iff_getElem.1 hz
      exact i64_wf (hx i hi (by omega)).2.2
end Go.Vl

set_option linter.unusedVariables false
set_option linter.unusedSimpArgs false
namespace Go.Vl
open Go Go.Proofs
abbrev ub {H : Type} (d : DataW H) : Nat := Go.Proofs.Ytimckjnnjakcoaa.Rows.uptoBulk d
abbrev ubs {H : Type} (l : List (DataW H)) : Nat := Go.Proofs.Ytimckjnnjakcoaa.Rows.uptoBulkAll l
/-- Whatever lies there as a value of type t, by the argument's own reading, r holds of, and of how much. -/
def Rdu {α : Type} (P : Program) (W : World) (t : TypeId) (r : List Value → α → Prop) (sz : α → Nat) : Prop :=
  ∀ (H : Type) (enc : TypeId × Value → H) (spare : Nat → Bool) (held : Bool) (fuel : Nat) (cs : List Value) (d : DataW H) (pl : List MemPlace),
    DataW.trod enc P W 0 spare held fuel t cs = some (d, pl) → ∃ x, r cs x ∧ sz x ≤ ub d
theorem Rdu.mono {α β : Type} {P : Program} {W : World} {t : TypeId} {r : List Value → α → Prop} {s : α → Nat} {q : List Value → β → Prop} {z : β → Nat} (h : Rdu P W t r s) (k : ∀ cs x, r cs x → ∃ y, q cs y ∧ z y ≤ s x) : Rdu P W t q z :=
  fun H enc sp hd fu cs d pl h1 => by
    obtain ⟨x, hx, hs⟩ := h H enc sp hd fu cs d pl h1
    obtain ⟨y, hy, hz⟩ := k cs x hx
    exact ⟨y, hy, by omega⟩
/-- A slice: its elements' cells, and what each is. -/
def PSu {α : Type} (A : SP) (k : Nat) (r : List Value → α → Prop) (cs : List Value) (xs : List α) : Prop :=
  ∃ (a : Option Addr) (cap : Nat) (Cs : List (List Value)), cs = [.slice a xs.length cap] ∧ xs.length ≤ cap ∧ Cs.length = xs.length ∧ (∀ i (h : i < xs.length) (h' : i < Cs.length), Cs[i].length = k ∧ r Cs[i] xs[i]) ∧ Rs A a Cs.flatten
def szL {α : Type} (sz : α → Nat) (xs : List α) : Nat := (xs.map sz).sum + 1
/-- Bytes. -/
def PByU (A : SP) (cs : List Value) (xs : List Nat) : Prop := ∃ a cap, cs = [.slice a xs.length cap] ∧ xs.length ≤ cap ∧ Rs A a (bys xs) ∧ ∀ x ∈ xs, x < 256
def PInU (A : SP) (cs : List Value) (xs : List Int) : Prop := ∃ a cap, cs = [.slice a xs.length cap] ∧ xs.length ≤ cap ∧ Rs A a (ints xs) ∧ ∀ x ∈ xs, -9223372036854775808 ≤ x ∧ x ≤ 9223372036854775807
end Go.Vl

set_option linter.unusedVariables false
set_option linter.unusedSimpArgs false
namespace Go.Vl
open Go Go.Proofs
/-- An operation's cells. -/
structure Op9 where
  k : Int
  q : Int
  n : Int
  a : Option Addr
  c : Nat
  b : List Nat
  v : Nat
  ka : Option Addr
  kc : Nat
  kp : List Int
def Op9.cells (t : Op9) : List Value := [.int .i64 t.k, .int .i64 t.q, .int .i64 t.n, .slice t.a t.b.length t.c, .int .u64 (t.v : Nat), .slice t.ka t.kp.length t.kc]
structure Op9W (A : SP) (t : Op9) : Prop where
  cap : t.b.length ≤ t.c
  rs : Rs A t.a (bys t.b)
  byt : ∀ x ∈ t.b, x < 256
  v : t.v < 18446744073709551616
  kcap : t.kp.length ≤ t.kc
  krs : Rs A t.ka (ints t.kp)
  kb : ∀ x ∈ t.kp, -9223372036854775808 ≤ x ∧ x ≤ 9223372036854775807
  q : -9223372036854775808 ≤ t.q ∧ t.q ≤ 9223372036854775807
  n : -9223372036854775808 ≤ t.n ∧ t.n ≤ 9223372036854775807
def Op9.sz (t : Op9) : Nat := t.b.length + t.kp.length + 1
def ocs (l : List Op9) : List Value := l.flatMap Op9.cells
def POps (A : SP) (cs : List Value) (ops : List Op9) : Prop := ∃ a cap, cs = [.slice a ops.length cap] ∧ ops.length ≤ cap ∧ Rs A a (ocs ops) ∧ ∀ t ∈ ops, Op9W A t
/-! ### An operation on the device alone -/
def rawS (t : Op9) (s : DevS) : DevS := if t.k = 7 then (sto ((wi t.q 256 : Nat) : Int) (t.b.take (256 - wi t.q 256)) s).2 else if t.k = 8 then (fl1 ((wi t.q 256 : Nat) : Int) s).2 else if t.k = 9 then (fe s).2 else s
theorem room_le {a b : Nat} {s : DevS} (h : Room a s) (hab : b ≤ a) : Room b s := fun l hl => Nat.le_trans (Nat.add_le_add_left hab _) (h l hl)
def rawL (l : List Op9) (s : DevS) : DevS := l.foldl (fun s t => rawS t s) s
/-- The same, but what would be stored into the range is passed over. -/
def rawB (at_ m : Nat) (t : Op9) (s : DevS) : DevS := if t.k = 7 ∧ wi t.q 256 < at_ + m ∧ at_ < wi t.q 256 + t.b.length then s else rawS t s
def rawLB (at_ m : Nat) (l : List Op9) (s : DevS) : DevS := l.foldl (fun s t => rawB at_ m t s) s
attribute [local irreducible] Sl pt ro Dev imgS
end Go.Vl
