/- Calls, builtins and slices, over the calculus of XCore. It names no program. Conditions: none. -/
import Derived.Test.YtimckjnnjakcoaaMem
set_option linter.unusedVariables false
set_option linter.unusedSimpArgs false
namespace Go.Vl
open Go

section
variable {P : Program} {n : Nat} {ρ : Env} {A : SP} {dst : Option Tmp} {ty : TypeId} {pos : String} {after : Array Edge} {gd : Option (Nat × Bool)}

/-- The function f has a Go body. -/
def bodyB (P : Program) (f : FuncId) : Bool := match P.funcs[f]? with
  | some fn => fn.name != "runtime.NumGoroutine" && fn.body.isSome
  | none => false

theorem run_callFunc {f : FuncId} {args : Array Value} {w : World} (h : bodyB P f = true) : (callFunc f args).run P w = .ok (.enter f args) w := by
  unfold bodyB at h
  cases hf : P.funcs[f]? with
  | none => rw [hf] at h; cases h
  | some fn =>
    rw [hf] at h
    simp at h
    obtain ⟨h1, h2⟩ := h
    have h3 : fn.body.isNone = false := by cases hb : fn.body <;> simp_all
    unfold callFunc
    rw [run_bind (w' := w) (a := P) (by simp [program, Sem.run])]
    simp [hf, h1, h3, pure]

theorem exec_call {f : FuncId} {args : Array Operand} {tys : Array TypeId} {vs : List Value} {w : World} (hb : bodyB P f = true) (ha : args.toList.map (ev n ρ) = vs) :
    (execOp (ev n ρ) ⟨dst, .call { callee := .value (.func f), args := args, argTypes := tys }, ty, pos, after, gd⟩).run P w = .ok (.enter f vs.toArray) w := by
  have he : args.map (ev n ρ) = vs.toArray := Array.ext' (by rw [Array.toList_map, ha])
  simp only [execOp, resolve, ev, Deferred.ofValue, he]
  rw [run_bind (w' := w) (a := ⟨.fn (.func f) #[], #[] ++ vs.toArray⟩) (by rfl)]
  simp only [invoke]
  rw [run_callFunc hb]
  simp

theorem o_call {f : FuncId} {args : Array Operand} {tys : Array TypeId} {vs : List Value} {R : Value → SP → Prop} (hb : bodyB P f = true) (ha : args.toList.map (ev n ρ) = vs) (hc : Fn P f vs.toArray A R) :
    OpC P n ρ A ⟨dst, .call { callee := .value (.func f), args := args, argTypes := tys }, ty, pos, after, gd⟩ R := fun g w hs =>
  ⟨f, vs.toArray, w, exec_call hb ha, hc g w hs⟩

/-- A call of a function value that is known: a closure. -/
theorem exec_dyn {x : Operand} {f : FuncId} {args : Array Operand} {tys : Array TypeId} {vs fs cs : List Value} {w : World} (hb : bodyB P f = true) (hx : ev n ρ x = .func (.func f) fs.toArray cs.toArray) (ha : args.toList.map (ev n ρ) = vs) :
    (execOp (ev n ρ) ⟨dst, .call { callee := .value x, args := args, argTypes := tys }, ty, pos, after, gd⟩).run P w = .ok (.enter f (fs ++ vs ++ cs).toArray) w := by
  have he : args.map (ev n ρ) = vs.toArray := Array.ext' (by rw [Array.toList_map, ha])
  simp only [execOp, resolve, hx, Deferred.ofValue, he]
  rw [run_bind (w' := w) (a := ⟨.fn (.func f) cs.toArray, fs.toArray ++ vs.toArray⟩) (by rfl)]
  simp only [invoke]
  rw [run_callFunc hb]
  simp

theorem o_dyn {x : Operand} {f : FuncId} {args : Array Operand} {tys : Array TypeId} {vs fs cs : List Value} {R : Value → SP → Prop} (hb : bodyB P f = true) (hx : ev n ρ x = .func (.func f) fs.toArray cs.toArray) (ha : args.toList.map (ev n ρ) = vs)
    (hc : Fn P f (fs ++ vs ++ cs).toArray A R) : OpC P n ρ A ⟨dst, .call { callee := .value x, args := args, argTypes := tys }, ty, pos, after, gd⟩ R := fun g w hs =>
  ⟨f, _, w, exec_dyn hb hx ha, hc g w hs⟩

theorem o_makeFunc {fn : Go.Fn} {first captured : Array Operand} {fs cs : List Value} (h1 : first.toList.map (ev n ρ) = fs) (h2 : captured.toList.map (ev n ρ) = cs) :
    OpV P n ρ A ⟨dst, .makeFunc fn first captured, ty, pos, after, gd⟩ (.func fn fs.toArray cs.toArray) := opv_of fun w => by
  have e1 : first.map (ev n ρ) = fs.toArray := Array.ext' (by rw [Array.toList_map, h1])
  have e2 : captured.map (ev n ρ) = cs.toArray := Array.ext' (by rw [Array.toList_map, h2])
  simp only [execOp, Instr.makeFunc, e1, e2]
  rfl

/-! ### len -/

theorem o_len {t e : TypeId} {x : Operand} {a : Option Addr} {l c : Nat} (hu : P.underlying t = some (.slice e)) (hx : ev n ρ x = .slice a l c) :
    OpV P n ρ A ⟨dst, .call { callee := .builtin .len, args := #[x], argTypes := #[t] }, ty, pos, after, gd⟩ (.int .i64 l) := opv_of fun w => by
  simp only [execOp, resolve, List.map_toArray, List.map_cons, List.map_nil, hx]
  rw [run_bind (w' := w) (a := ⟨.builtin .len #[t] ty _, #[.slice a l c]⟩) (by rfl)]
  simp only [invoke, builtin]
  rw [run_bind (w' := w) (a := .int .i64 l)]
  · rfl
  simp only [Builtin.len_, List.getElem?_toArray, List.getElem?_cons_zero]
  rw [run_bind (run_und hu)]
  rfl
theorem o_lenS {t : TypeId} {x : Operand} {s : ByteArray} (hu : P.underlying t = some .string) (hx : ev n ρ x = .string s) :
    OpV P n ρ A ⟨dst, .call { callee := .builtin .len, args := #[x], argTypes := #[t] }, ty, pos, after, gd⟩ (.int .i64 s.size) := opv_of fun w => by
  simp only [execOp, resolve, List.map_toArray, List.map_cons, List.map_nil, hx]
  rw [run_bind (w' := w) (a := ⟨.builtin .len #[t] ty _, #[.string s]⟩) (by rfl)]
  simp only [invoke, builtin]
  rw [run_bind (w' := w) (a := .int .i64 s.size)]
  · rfl
  simp only [Builtin.len_, List.getElem?_toArray, List.getElem?_cons_zero]
  rw [run_bind (run_und hu)]
  rfl

/-! ### Slices of slices -/

/-- The bound of a slice expression; none: what is given. -/
def bnd (n : Nat) (ρ : Env) : Option Operand → Nat → Nat → Prop
  | none, d, r => r = d
  | some x, _, r => ∃ k i, ev n ρ x = .int k i ∧ 0 ≤ i ∧ r = i.toNat

theorem run_bound {k : IntKind} {r y : Nat} {code : BoundsCode} {w : World} (h : r ≤ y) : (Instr.sliceBound (.int k r) y code).run P w = .ok r w := by
  unfold Instr.sliceBound
  rw [run_bind (w' := w) (a := (k, (r : Int))) (by rfl)]
  simp only []
  rw [if_pos ⟨by omega, by omega⟩]
  simp [pure]

theorem bnd_none {d : Nat} : bnd n ρ none d d := rfl
theorem bnd_some {x : Operand} {d : Nat} {k : IntKind} {i : Int} (h : ev n ρ x = .int k i) (h0 : 0 ≤ i) : bnd n ρ (some x) d i.toNat := ⟨k, i, h, h0, rfl⟩
theorem bnd_nat {x : Operand} {d r : Nat} {k : IntKind} (h : ev n ρ x = .int k (r : Int)) : bnd n ρ (some x) d r := ⟨k, r, h, by omega, by omega⟩

theorem run_bounds {b : Bool} {len cap l h : Nat} {lo hi : Option Operand} {w : World} (hl : bnd n ρ lo 0 l) (hh : bnd n ρ hi len h) (h1 : l ≤ h) (h2 : h ≤ cap) :
    (Instr.sliceBounds b len cap (lo.map (ev n ρ)) (hi.map (ev n ρ)) none).run P w = .ok (l, h, cap) w := by
  unfold Instr.sliceBounds
  rw [run_bind (w' := w) (a := cap) (by rfl)]
  have e1 : ∀ (K : Nat → Sem (Nat × Nat × Nat)) (f : Sem Nat), f.run P w = .ok h w → (f >>= K).run P w = (K h).run P w := fun K f hf => run_bind hf
  cases hi with
  | none =>
    obtain rfl : h = len := hh
    simp only [Option.map_none]
    rw [run_bind (w' := w) (a := h) (by rfl)]
    cases lo with
    | none => obtain rfl : l = 0 := hl; simp [pure, bind, Sem.bind]
    | some x =>
      obtain ⟨k, i, hk, hi0, rfl⟩ := hl
      have hki : ev n ρ x = .int k ((i.toNat : Nat) : Int) := by rw [hk, Int.toNat_of_nonneg hi0]
      simp only [Option.map_some, hki]
      rw [run_bind (run_bound h1)]
      rfl
  | some y =>
    obtain ⟨k, i, hk, hi0, rfl⟩ := hh
    have hki : ev n ρ y = .int k ((i.toNat : Nat) : Int) := by rw [hk, Int.toNat_of_nonneg hi0]
    simp only [Option.map_some, hki]
    rw [run_bind (run_bound h2)]
    cases lo with
    | none => obtain rfl : l = 0 := hl; simp [pure, bind, Sem.bind]
    | some x =>
      obtain ⟨k, i, hk, hi0, rfl⟩ := hl
      have hki : ev n ρ x = .int k ((i.toNat : Nat) : Int) := by rw [hk, Int.toNat_of_nonneg hi0]
      simp only [Option.map_some, hki]
      rw [run_bind (run_bound h1)]
      rfl

/-- The address of what is left of a slice from its element l on. -/
def cutAddr (a : Option Addr) (cap l k : Nat) : Option Addr := if cap = l then a else a.map (·.add (l * k))

theorem o_slice {t e : TypeId} {x : Operand} {lo hi : Option Operand} {a : Option Addr} {len cap l h k : Nat} (hu : P.underlying t = some (.slice e)) (hk : szE P e = some k) (hx : ev n ρ x = .slice a len cap)
    (hl : bnd n ρ lo 0 l) (hh : bnd n ρ hi len h) (h1 : l ≤ h) (h2 : h ≤ cap) :
    OpV P n ρ A ⟨dst, .slice t x lo hi none, ty, pos, after, gd⟩ (.slice (cutAddr a cap l k) (h - l) (cap - l)) := opv_of fun w => by
  simp only [execOp, hx]
  rw [run_bind (w' := w) (a := .slice (cutAddr a cap l k) (h - l) (cap - l))]
  · rfl
  unfold Instr.sliceAt
  rw [run_bind (run_und hu)]
  simp only []
  unfold Instr.slice
  rw [run_bind (run_und hu)]
  simp only []
  have := run_bounds (P := P) (b := true) (w := w) hl hh h1 h2
  rw [show (Option.map (ev n ρ) none : Option Value) = none from rfl]
  rw [run_bind this]
  simp only []
  rw [run_bind (run_size hk)]
  rfl

/-- A slice of an array, by its address. -/
theorem o_sliceA {t e : TypeId} {x : Operand} {lo hi : Option Operand} {b off len l h k : Nat} (hu : P.underlying t = some (.array len e)) (hk : szE P e = some k) (hx : ev n ρ x = .pointer (some ⟨b, off, none⟩))
    (hl : bnd n ρ lo 0 l) (hh : bnd n ρ hi len h) (h1 : l ≤ h) (h2 : h ≤ len) :
    OpV P n ρ A ⟨dst, .slice t x lo hi none, ty, pos, after, gd⟩ (.slice (cutAddr (some ⟨b, off, none⟩) len l k) (h - l) (len - l)) := opv_of fun w => by
  simp only [execOp, hx]
  rw [run_bind (w' := w) (a := .slice (cutAddr (some ⟨b, off, none⟩) len l k) (h - l) (len - l))]
  · rfl
  unfold Instr.sliceAt
  rw [run_bind (run_und hu)]
  simp only [Instr.sureAddr]
  rw [run_bind (w' := w) (a := (⟨b, off, none⟩ : Addr)) (by rfl)]
  have := run_bounds (P := P) (b := false) (w := w) hl hh h1 h2
  rw [show (Option.map (ev n ρ) none : Option Value) = none from rfl]
  rw [run_bind this]
  simp only []
  rw [run_bind (run_size hk)]
  unfold cutAddr
  split <;> rfl

theorem o_sliceS {t : TypeId} {x : Operand} {lo hi : Option Operand} {s : ByteArray} {l h : Nat} (hu : P.underlying t = some .string) (hx : ev n ρ x = .string s)
    (hl : bnd n ρ lo 0 l) (hh : bnd n ρ hi s.size h) (h1 : l ≤ h) (h2 : h ≤ s.size) :
    OpV P n ρ A ⟨dst, .slice t x lo hi none, ty, pos, after, gd⟩ (.string (s.extract l h)) := opv_of fun w => by
  simp only [execOp, hx]
  rw [run_bind (w' := w) (a := .string (s.extract l h))]
  · rfl
  unfold Instr.sliceAt
  rw [run_bind (run_und hu)]
  simp only []
  unfold Instr.slice
  rw [run_bind (run_und hu)]
  simp only [Option.map_none, Option.isSome_none, Bool.false_eq_true, if_false]
  have := run_bounds (P := P) (b := false) (w := w) hl hh h1 h2
  rw [run_bind this]
  rfl

/-! ### make -/

theorem o_makeSlice {t e : TypeId} {x y : Operand} {len cap : Nat} {bytes : Nat} {k1 k2 : IntKind} {z : Value} (hu : P.underlying t = some (.slice e)) (hk : szE P e = some 1) (hb : bytesE P e = some bytes) (hz : zeroE P e = some z) (ho : oneC z = true)
    (hx : ev n ρ x = .int k1 len) (hy : ev n ρ y = .int k2 cap) (h1 : len ≤ cap) (h2 : cap * bytes ≤ 140737488355328) (h3 : cap ≤ 140737488355328) :
    OpX P n ρ A ⟨dst, .makeSlice t x y, ty, pos, after, gd⟩ (NewS A (List.replicate cap z) e len cap) := fun g w hs => by
  refine ⟨_, w.alloc (cl (List.replicate cap z) e), _, ?_, hs.alloc _, w.heap.size, rfl, rfl⟩
  have w1 : IntKind.i64.wrap (len : Int) = len := by rw [IntWalk.i64_in _ (by omega)]
  have w2 : IntKind.i64.wrap (cap : Int) = cap := by rw [IntWalk.i64_in _ (by omega)]
  obtain ⟨i, hi, hib⟩ := run_bytes (w := w) hb
  have p47 : (2 : Nat) ^ 47 = 140737488355328 := by decide
  have p48 : (2 : Int) ^ 48 = 281474976710656 := by decide
  simp only [execOp, hx, hy]
  rw [run_bind (w' := w.alloc (cl (List.replicate cap z) e)) (a := .slice (some ⟨w.heap.size, 0, none⟩) len cap)]
  · rfl
  unfold Instr.makeSlice
  rw [run_bind (run_und hu)]
  simp only []
  rw [run_bind (w' := w) (a := (len : Int)) (by rfl), run_bind (w' := w) (a := (cap : Int)) (by rfl), run_bind hi]
  simp only [w1, w2, hib, p48]
  have hcb : (bytes : Int) * (cap : Int) ≤ 140737488355328 := by
    have : (bytes : Int) * (cap : Int) = ((cap * bytes : Nat) : Int) := by rw [Nat.mul_comm]; simp
    rw [this]; omega
  rw [if_neg (by simp; omega)]
  have ask : (askRoom (((cap : Nat) : Int).toNat * bytes)).run P w = .ok () w := by
    unfold askRoom roomBytes
    rw [p47, if_neg (by simp; omega)]; rfl
  rw [run_bind ask, run_bind (run_size hk)]
  by_cases h0 : cap = 0
  · subst h0
    simp only [Int.toNat_natCast, Nat.zero_mul, if_true, List.replicate_zero]
    have hr0 : ∀ f : Nat → Value, Array.map f (Array.range 0) = ([] : List Value).toArray := fun f => by simp
    show (do let a ← newRow e (Array.map (fun x => (#[] : Array Value)[x % (#[] : Array Value).size]!) (Array.range 0)); pure (Value.slice (some a) len 0) : Sem Value).run P w = _
    rw [hr0, run_bind run_newRow]
    rfl
  · simp only [Int.toNat_natCast, Nat.mul_one, h0, if_false]
    rw [run_bind (run_zeroV hz)]
    have hzc : z.cells = #[z] := by cases z <;> first | (simp [oneC] at ho; done) | rfl
    have hrow : ((Array.range cap).map fun x => z.cells[x % z.cells.size]!) = (List.replicate cap z).toArray := by
      rw [hzc]
      apply Array.ext'
      rw [Array.toList_map]
      simp [Nat.mod_one]
      apply List.ext_getElem?
      intro j
      simp [List.getElem?_replicate]
      by_cases hj : j < cap <;> simp [hj]
    show (do let a ← newRow e ((Array.range cap).map fun x => z.cells[x % z.cells.size]!); pure (Value.slice (some a) ((len : Nat) : Int).toNat ((cap : Nat) : Int).toNat) : Sem Value).run P w = _
    rw [hrow, run_bind run_newRow]
    simp [pure, Int.toNat_natCast]
theorem o_makeSliceI {t e : TypeId} {x y : Operand} {a c : Int} {bytes : Nat} {k1 k2 : IntKind} {z : Value} (hu : P.underlying t = some (.slice e)) (hk : szE P e = some 1) (hb : bytesE P e = some bytes) (hz : zeroE P e = some z) (ho : oneC z = true)
    (hx : ev n ρ x = .int k1 a) (hy : ev n ρ y = .int k2 c) (h0 : 0 ≤ a ∧ a ≤ c) (h2 : c.toNat * bytes ≤ 140737488355328 ∧ c ≤ 140737488355328) :
    OpX P n ρ A ⟨dst, .makeSlice t x y, ty, pos, after, gd⟩ (NewS A (List.replicate c.toNat z) e a.toNat c.toNat) :=
  o_makeSlice (len := a.toNat) (cap := c.toNat) hu hk hb hz ho (by rw [hx, Int.toNat_of_nonneg h0.1]) (by rw [hy, Int.toNat_of_nonneg (by omega)]) (by omega) h2.1 (by omega)

/-! ### A struct of parts -/

theorem run_placesL (l : List Field) : ∀ (pl : List (Nat × Nat)), l.map (fun f => (f.offset, szE P f.type)) = pl.map (fun p => (p.1, some p.2)) → ∀ w : World,
    (l.mapM fun f => do pure (f.offset, ← sizeOf f.type) : Sem (List (Nat × Nat))).run P w = .ok pl w := by
  induction l with
  | nil => intro pl h w; cases pl with
    | nil => rfl
    | cons p pl => simp at h
  | cons f l ih =>
    intro pl h w
    cases pl with
    | nil => simp at h
    | cons p pl =>
      simp only [List.map_cons, List.cons.injEq, Prod.mk.injEq] at h
      obtain ⟨⟨h1, h2⟩, h3⟩ := h
      rw [List.mapM_cons]
      rw [run_bind (a := (f.offset, p.2)) (w' := w) (by rw [run_bind (run_size h2)]; rfl)]
      rw [run_bind (ih pl h3 w), h1]
      rfl
theorem run_places {fs : Array Field} {pl : List (Nat × Nat)} (h : fs.toList.map (fun f => (f.offset, szE P f.type)) = pl.map (fun p => (p.1, some p.2))) (w : World) :
    (fs.mapM fun f => do pure (f.offset, ← sizeOf f.type) : Sem (Array (Nat × Nat))).run P w = .ok pl.toArray w := by
  have e : fs = fs.toList.toArray := by simp
  rw [e, List.mapM_toArray]
  rw [← bind_pure_comp, run_bind (run_placesL fs.toList pl h w)]
  rfl

theorem o_buildStruct {t : TypeId} {fs : Array Field} {places : List (Nat × Nat)} {z l : List Value} {parts : Array (Nat × Operand)} {vs : List (Nat × Value)} (hu : P.underlying t = some (.struct fs)) (hz : zeroE P t = some (.agg z.toArray))
    (hp : ∀ w, (fs.mapM fun f => do pure (f.offset, ← sizeOf f.type) : Sem (Array (Nat × Nat))).run P w = .ok places.toArray w) (hx : parts.toList.map (fun p => (p.1, ev n ρ p.2)) = vs)
    (hf : Instr.fill (fun i : Nat => places[i]?) z.toArray vs = some l.toArray) : OpV P n ρ A ⟨dst, .build t parts, ty, pos, after, gd⟩ (.agg l.toArray) := o_build hx fun w => by
  unfold Instr.build
  rw [run_bind (run_zeroV hz)]
  simp only [Value.cells]
  rw [run_bind (run_und hu)]
  simp only []
  rw [run_bind (hp w)]
  have e : (fun i : Nat => places.toArray[i]?) = fun i : Nat => places[i]? := by funext i; simp
  rw [e, hf]
  rfl

/-! ### Results -/

def ResV (P : Program) (n : Nat) (ρ : Env) (A : SP) : ResultVar → Value → Prop
  | .tmp t, v => ev n ρ (.tmp t) = v
  | .cell a t, v => ∃ p, ev n ρ (.tmp a) = .pointer (some p) ∧ ∀ g w, sat g w A → (loadVar t p).run P w = .ok v w

theorem rv_tmp {t : Tmp} {v : Value} (h : ev n ρ (.tmp t) = v) : ResV P n ρ A (.tmp t) v := h
theorem rv_cell {a : Tmp} {t : TypeId} {b off k : Nat} {l vs : List Value} {E : TypeId} (hp : aggE P t = true) (hk : szE P t = some k) (hx : ev n ρ (.tmp a) = .pointer (some ⟨b, off, none⟩)) (hh : Has A b (cl l E)) (hl : off + k ≤ l.length)
    (hv : (l.drop off).take k = vs) : ResV P n ρ A (.cell a t) (.agg vs.toArray) := ⟨_, hx, fun g w hs => by
  unfold loadVar
  rw [run_bind (run_isAgg_t hp)]
  simp only [if_true]
  rw [run_bind (run_size hk), run_bind (run_loadCells (hh g w hs) hl), hv]
  rfl⟩
theorem rv_cell1 {a : Tmp} {t : TypeId} {b off : Nat} {l : List Value} {E : TypeId} {v : Value} (hp : plainE P t = true) (hx : ev n ρ (.tmp a) = .pointer (some ⟨b, off, none⟩)) (hh : Has A b (cl l E)) (hv : l[off]? = some v) : ResV P n ρ A (.cell a t) v :=
  ⟨_, hx, fun g w hs => by
    unfold loadVar
    rw [run_bind (run_isAgg_f hp)]
    exact run_load1 (by rw [cell_cl (hh g w hs), hv])⟩

theorem resv_run {r : ResultVar} {v : Value} (h : ResV P n ρ A r v) {g : Gh} {a : Act} {w : World} (ha : Agr n ρ a) (hs : sat g w A) :
    (match r with | .tmp t => pure (a.tmps.getD t undef) | .cell c t => do loadVar t (← asAddr (a.tmps.getD c undef)) : Sem Value).run P w = .ok v w := by
  have he : ∀ t, a.tmps.getD t undef = ev n ρ (.tmp t) := fun t => by rw [← ha.eval]; rfl
  cases r with
  | tmp t => simp only [he]; rw [show ev n ρ (.tmp t) = v from h]; rfl
  | cell c t =>
    obtain ⟨p, hp, hl⟩ := h
    simp only [he, hp, asAddr]
    rw [run_bind (w' := w) (a := p) (by rfl)]
    exact hl g w hs

/-- How one result is read. -/
def rdR (tmps : Array Value) : ResultVar → Sem Value
  | .tmp t => pure (tmps.getD t undef)
  | .cell a t => do loadVar t (← asAddr (tmps.getD a undef))
theorem results_rd (fn : Func) (tmps : Array Value) : results fn tmps = (fn.results.mapM (rdR tmps) >>= fun vs => pure (if h : vs.size = 1 then vs[0] else .tuple vs)) := by
  unfold results
  congr 1
theorem rd_run {r : ResultVar} {v : Value} (h : ResV P n ρ A r v) {g : Gh} {a : Act} {w : World} (ha : Agr n ρ a) (hs : sat g w A) : (rdR a.tmps r).run P w = .ok v w := by
  have := resv_run h ha hs
  cases r <;> exact this

theorem mapM1 {f : ResultVar → Sem Value} {r : ResultVar} : (#[r].mapM f) = (f r >>= fun x => pure #[x]) := by
  rw [show #[r] = [r].toArray from rfl, List.mapM_toArray]; simp
theorem mapM2 {f : ResultVar → Sem Value} {r s : ResultVar} : (#[r, s].mapM f) = (f r >>= fun x => f s >>= fun y => pure #[x, y]) := by
  rw [show #[r, s] = [r, s].toArray from rfl, List.mapM_toArray]; simp
theorem mapM3 {f : ResultVar → Sem Value} {r s q : ResultVar} : (#[r, s, q].mapM f) = (f r >>= fun x => f s >>= fun y => f q >>= fun z => pure #[x, y, z]) := by
  rw [show #[r, s, q] = [r, s, q].toArray from rfl, List.mapM_toArray]; simp

theorem resA1 {fn : Func} {r : ResultVar} {v : Value} (h : fn.results = #[r]) (h1 : ResV P n ρ A r v) : Res P n fn ρ A v := fun g a w ha hs => by
  rw [results_rd, h, mapM1]
  rw [run_bind (w' := w) (a := #[v]) (by rw [run_bind (rd_run h1 ha hs)]; rfl)]
  rfl
theorem resA2 {fn : Func} {r s : ResultVar} {v u : Value} (h : fn.results = #[r, s]) (h1 : ResV P n ρ A r v) (h2 : ResV P n ρ A s u) : Res P n fn ρ A (.tuple #[v, u]) := fun g a w ha hs => by
  rw [results_rd, h, mapM2]
  rw [run_bind (w' := w) (a := #[v, u]) (by rw [run_bind (rd_run h1 ha hs), run_bind (rd_run h2 ha hs)]; rfl)]
  rfl
theorem resA3 {fn : Func} {r s q : ResultVar} {v u x : Value} (h : fn.results = #[r, s, q]) (h1 : ResV P n ρ A r v) (h2 : ResV P n ρ A s u) (h3 : ResV P n ρ A q x) : Res P n fn ρ A (.tuple #[v, u, x]) := fun g a w ha hs => by
  rw [results_rd, h, mapM3]
  rw [run_bind (w' := w) (a := #[v, u, x]) (by rw [run_bind (rd_run h1 ha hs), run_bind (rd_run h2 ha hs), run_bind (rd_run h3 ha hs)]; rfl)]
  rfl

end
end Go.Vl
