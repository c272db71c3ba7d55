/- Structs and strings that are held against each other, bytes as strings, slices as arrays, 32 bits. Conditions: none. -/
import Derived.Test.YtimckjnnjakcoaaPV
import Derived.Laws.BytesArg
set_option linter.unusedVariables false
set_option linter.unusedSimpArgs false
namespace Go.Vl
open Go Go.Proofs


/-! ### Structs of ints that are held against each other -/
def intF (P : Program) (f : Field) : Bool := f.name != "_" && plainE P f.type && (match P.underlying f.type with | some (.int _) => true | _ => false)
/-- A struct whose fields are ints, one a cell. -/
def flatI (P : Program) (fs : Array Field) (n : Nat) : Bool := ((fs.toList.map fun f => f.offset) == List.range n) && fs.toList.all (intF P)

theorem range_eq {n : Nat} {xs ys : List Value} {l m : List Int} (hl : l.length = n) (hm : m.length = n) : ((List.range n).all fun i => l[i]? == m[i]?) = decide (l = m) := by
  by_cases e : l = m
  · subst e; simp
  · rw [decide_eq_false e]
    cases hb : (List.range n).all fun i => l[i]? == m[i]? with
    | false => rfl
    | true =>
      exfalso; apply e
      apply List.ext_getElem?
      intro i
      by_cases hi : i < n
      · rw [List.all_eq_true] at hb
        have := hb i (by simp; exact hi)
        simpa using this
      · rw [List.getElem?_eq_none (by omega), List.getElem?_eq_none (by omega)]

theorem eqst_run {P : Program} {t : TypeId} {fs : Array Field} {w : World} {n : Nat} (hu : P.underlying t = some (.struct fs)) (hst : P.stoodInHeld t = false) (hf : flatI P fs n = true) (l m : List Int) (hl : l.length = n) (hm : m.length = n) :
    (Op.equal t (.agg (ints l).toArray) (.agg (ints m).toArray)).run P w = .ok (decide (l = m)) w := by
  show (Op.equalIn (9999 + 1) t _ _).run P w = _
  unfold flatI at hf
  rw [Bool.and_eq_true, beq_iff_eq] at hf
  obtain ⟨ho, hall⟩ := hf
  have hlt : ∀ f ∈ fs.toList, f.offset < n := fun f hf => by
    have : f.offset ∈ fs.toList.map (fun f => f.offset) := List.mem_map_of_mem hf
    rw [ho] at this; simpa using this
  rw [Op.equalIn, run_bind (run_und hu)]
  simp only []
  rw [run_bind (w' := w) (a := P) (by rfl), if_neg (by rw [hst]; decide)]
  have hpart : ∀ (f : Field), f ∈ fs.toList → ∀ (zs : List Int), zs.length = n → (part f.type (ints zs).toArray f.offset).run P w = .ok (.int .i64 (zs[f.offset]?.getD 0)) w := fun f hf zs hz => by
    have h := hlt f hf
    have hp : plainE P f.type = true := by have := List.all_eq_true.1 hall f hf; simp [intF] at this; exact this.1.2
    unfold part
    rw [run_bind (run_isAgg_f hp)]
    have h' : f.offset < zs.length := by omega
    simp [ints, i64, h', pure]
  have heq : ∀ (f : Field), f ∈ fs.toList → ∀ (a b : Int), (Op.equalIn 9999 f.type (.int .i64 a) (.int .i64 b)).run P w = .ok (a == b) w := fun f hf a b => by
    have := List.all_eq_true.1 hall f hf
    simp only [intF, Bool.and_eq_true] at this
    obtain ⟨_, h2⟩ := this
    show (Op.equalIn (9998 + 1) f.type (.int .i64 a) (.int .i64 b)).run P w = _
    cases hq : P.underlying f.type with
    | none => simp [hq] at h2
    | some d =>
      rw [hq] at h2
      cases d <;> simp at h2
      rw [Op.equalIn, run_bind (run_und hq)]; simp [pure]
  have hname : ∀ f ∈ fs.toList, f.name ≠ "_" := fun f hf => by have := List.all_eq_true.1 hall f hf; simp [intF] at this; exact this.1.1
  rw [← Array.forIn_toList]
  have hall' := run_all (P := P) (w := w) (fun (f : Field) __s => 
      if f.name ≠ "_" then do
        let a ← part f.type (ints l).toArray f.offset
        let b ← part f.type (ints m).toArray f.offset
        let c ← Op.equalIn 9999 f.type a b
        if (!c) = true then pure (ForInStep.done (some false, ())) else pure (ForInStep.yield (none, ()))
      else pure (ForInStep.yield (none, ()))) (fun f => l[f.offset]? == m[f.offset]?) fs.toList (fun f hf => by
    rw [if_pos (hname f hf), run_bind (hpart f hf l hl), run_bind (hpart f hf m hm), run_bind (heq f hf _ _)]
    have h := hlt f hf
    have h1 : l[f.offset]? = some (l[f.offset]'(by omega)) := List.getElem?_eq_getElem _
    have h2 : m[f.offset]? = some (m[f.offset]'(by omega)) := List.getElem?_eq_getElem _
    rw [h1, h2]
    by_cases hc : (l[f.offset]'(by omega)) = (m[f.offset]'(by omega)) <;> simp [hc, pure])
  rw [run_bind hall']
  have e : (fs.toList.all fun f => l[f.offset]? == m[f.offset]?) = decide (l = m) := by
    rw [← range_eq (xs := []) (ys := []) hl hm, ← ho, List.all_map]; rfl
  rw [e]
  by_cases h : l = m <;> simp [h, pure]

section
variable {P : Program} {n : Nat} {ρ : Env} {A : SP} {dst : Option Tmp} {ty : TypeId} {pos : String} {after : Array Edge} {gd : Option (Nat × Bool)}
theorem o_eqst {t t' : TypeId} {x y : Operand} {k : Nat} {fs : Array Field} {l m : List Int} (hu : P.underlying t = some (.struct fs)) (hst : P.stoodInHeld t = false) (hf : flatI P fs k = true) (hge : P.eqGuardType P.depth t = false)
    (hx : ev n ρ x = .agg (ints l).toArray) (hy : ev n ρ y = .agg (ints m).toArray) (h1 : l.length = k) (h2 : m.length = k) :
    OpV P n ρ A ⟨dst, .binOp .eql t x y t', ty, pos, after, gd⟩ (.bool (decide (l = m))) := opv_of fun w => by
  simp only [execOp, hx, hy]
  rw [run_bind (w' := w) (a := .bool (decide (l = m)))]
  · rfl
  rw [run_bind (w' := w) (a := ())]
  · show (do pure (Value.bool (← Op.equal t (.agg (ints l).toArray) (.agg (ints m).toArray))) : Sem Value).run P w = _
    rw [run_bind (eqst_run hu hst hf l m h1 h2)]; rfl
  · simp [eqGuard, hge, program, bind, Sem.bind, Sem.run, pure]
theorem o_nest {t t' : TypeId} {x y : Operand} {k : Nat} {fs : Array Field} {l m : List Int} (hu : P.underlying t = some (.struct fs)) (hst : P.stoodInHeld t = false) (hf : flatI P fs k = true) (hge : P.eqGuardType P.depth t = false)
    (hx : ev n ρ x = .agg (ints l).toArray) (hy : ev n ρ y = .agg (ints m).toArray) (h1 : l.length = k) (h2 : m.length = k) :
    OpV P n ρ A ⟨dst, .binOp .neq t x y t', ty, pos, after, gd⟩ (.bool (!decide (l = m))) := opv_of fun w => by
  simp only [execOp, hx, hy]
  rw [run_bind (w' := w) (a := .bool (!decide (l = m)))]
  · rfl
  rw [run_bind (w' := w) (a := ())]
  · show (do pure (Value.bool (!(← Op.equal t (.agg (ints l).toArray) (.agg (ints m).toArray)))) : Sem Value).run P w = _
    rw [run_bind (eqst_run hu hst hf l m h1 h2)]; rfl
  · simp [eqGuard, hge, program, bind, Sem.bind, Sem.run, pure]
/-- Strings. -/
theorem o_eqstr {t t' : TypeId} {x y : Operand} {a b : ByteArray} (hx : ev n ρ x = .string a) (hy : ev n ρ y = .string b) :
    OpV P n ρ A ⟨dst, .binOp .eql t x y t', ty, pos, after, gd⟩ (.bool (a.toList == b.toList)) :=
  opv_of fun w => by
  simp only [execOp, hx, hy]
  rw [run_bind (w' := w) (a := .bool (a.toList == b.toList))]
  · rfl
  rw [run_bind (w' := w) (a := ())]
  · simp [binOp, Op.stringOp, pure]
  · rfl

/-! ### A slice as an array -/
theorem o_s2a {t e : TypeId} {x : Operand} {k m c : Nat} {a : Option Addr} (hu : P.underlying t = some (.array k e)) (hx : ev n ρ x = .slice a m c) (hk : k ≤ m) :
    OpV P n ρ A ⟨dst, .sliceToArrayPointer t x, ty, pos, after, gd⟩ (.pointer a) := opv_of fun w => by
  simp only [execOp, hx]
  rw [run_bind (w' := w) (a := .pointer a)]
  · rfl
  unfold Instr.arrayAt
  rw [run_bind (run_und hu)]
  simp [Nat.not_lt.2 hk, pure]

/-! ### 32 bits -/
theorem o_compl32 {t : TypeId} {x : Operand} {a : Nat} (hx : ev n ρ x = .int .u32 (a : Nat)) (ha : a < 4294967296) : OpV P n ρ A ⟨dst, .unOp .xor t x, ty, pos, after, gd⟩ (.int .u32 ((a ^^^ 4294967295 : Nat) : Int)) := (o_compl hx).cast (by
  have h1 : (BitVec.ofInt IntKind.u32.bits (if IntKind.u32.signed then -1 else IntKind.u32.max)).toNat = 4294967295 := by decide
  rw [BitVec.toNat_xor, h1, bv_of .u32 a (by simpa [IntKind.bits] using ha), Nat.xor_comm, wrap_fit .u32 rfl _ (Nat.xor_lt_two_pow (by simpa [IntKind.bits] using ha) (by decide))])
theorem o_neg32 {t : TypeId} {x : Operand} {a : Nat} (hx : ev n ρ x = .int .u32 (a : Nat)) (ha : a < 2) : OpV P n ρ A ⟨dst, .unOp .neg t x, ty, pos, after, gd⟩ (.int .u32 ((a * 4294967295 : Nat) : Int)) := (o_neg hx).cast (by
  have : a = 0 ∨ a = 1 := by omega
  rcases this with rfl | rfl <;> rfl)

/-! ### Bytes that may be a string's -/
theorem o_cpyS {t e : TypeId} {x : Operand} {b m c : Nat} {l : List Value} {E : TypeId} {A' : SP} (hu : P.underlying t = some (.slice e)) (he : P.underlying e = some (.int .u8)) (hx : ev n ρ x = .slice (some ⟨b, 0, none⟩) m c)
    (hd : Upd A b (cl l E) (.cells l.toArray E (l.length, l.length + 1)) A') : OpX P n ρ A ⟨dst, .convert t t x, ty, pos, after, gd⟩ (fun v B => v = .slice (some ⟨b, 0, none⟩) m c ∧ B = A') := fun g w hs => by
  have h := hd.has g w hs
  refine ⟨_, w.freeze ⟨b, l.length, none⟩ 1, A', ?_, hd.sat hs (fun k => ?_) rfl rfl rfl, rfl, rfl⟩
  · simp only [execOp, hx, convert]
    rw [run_bind (a := .slice (some ⟨b, 0, none⟩) m c) (w' := w.freeze ⟨b, l.length, none⟩ 1)]
    · rfl
    rw [run_bind (run_und hu), run_bind (run_und hu)]
    simp only []
    rw [run_bind (run_und he)]
    have hsh : w.shape? b = some (E, l.length) := by unfold World.shape?; rw [h]; simp [cl]
    simp [markStringish, shape, freeze, Sem.run, bind, Sem.bind, hsh, pure]
  · show (World.freeze w ⟨b, l.length, none⟩ 1).heap[k]? = _
    unfold World.freeze
    rw [if_neg (by decide)]
    show (w.heap.modify b _)[k]? = _
    rw [Array.getElem?_modify]
    by_cases hk : b = k
    · subst hk; rw [if_pos rfl, if_pos rfl, h]; simp [cl]
    · rw [if_neg hk, if_neg (Ne.symm hk)]
end
theorem rs_mk {R : SP} {b : Nat} {l : List Value} {E : TypeId} {fz : Nat × Nat} : Rs (R * pt b (.cells l.toArray E fz)) (some ⟨b, 0, none⟩) l := fun g w hs i v hv => by
  have h := has_here g w hs
  refine ⟨b, 0, rfl, ?_⟩
  simp only [World.cell?, h, Nat.zero_add, List.getElem?_toArray]
  simpa using hv

/-- A string of bytes. -/
def sob (xs : List Nat) : ByteArray := ⟨(xs.map fun n => UInt8.ofNat n).toArray⟩
theorem o_b2s {P : Program} {n : Nat} {ρ : Env} {A : SP} {dst : Option Tmp} {ty : TypeId} {pos : String} {after : Array Edge} {gd : Option (Nat × Bool)} {s t e : TypeId} {x : Operand} {a : Option Addr} {m c : Nat} {xs : List Nat} (hs : P.underlying s = some (.slice e)) (he : P.underlying e = some (.int .u8)) (ht : P.underlying t = some .string)
    (hx : ev n ρ x = .slice a m c) (hr : Rs A a (bys xs)) (hm : xs.length = m) (h0 : 0 < m) : OpV P n ρ A ⟨dst, .convert s t x, ty, pos, after, gd⟩ (.string (sob xs)) := fun g w hsat => by
  have h00 : (bys xs)[0]? = some ((bys xs)[0]'(by rw [bys_length]; omega)) := List.getElem?_eq_getElem _
  obtain ⟨b, o, rfl, _⟩ := hr g w hsat 0 _ h00
  simp only [execOp, hx]
  rw [run_bind (w' := w) (a := .string (sob xs))]
  · rfl
  rw [run_convert_bytes_arg w s e hs he b o m c (xs.map fun (q : Nat) => (q : Int)) (by simp [hm]) (fun i hi => ?_) t ht]
  · simp [strOfNums, sob, List.map_map, Function.comp_def]
  · have hi' : i < xs.length := by omega
    have h1 := bys_at hi'
    obtain ⟨b', o', e', hc⟩ := hr g w hsat i _ h1
    simp only [Option.some.injEq, Addr.mk.injEq, and_true] at e'
    obtain ⟨rfl, rfl⟩ := e'
    rw [hc]
    simp [hi']

end Go.Vl
