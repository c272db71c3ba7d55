/- Operations on memory, and calls, over the calculus of XCore. It names no program. Conditions: none. -/
import Derived.Test.YtimckjnnjakcoaaOps
set_option linter.unusedVariables false
set_option linter.unusedSimpArgs false
namespace Go.Vl
open Go

/-- A value of one cell. -/
def oneC : Value → Bool
  | .agg _ | .tuple _ => false
  | _ => true

section
variable {P : Program} {w : World}

theorem cell_cl {w : World} {b : Nat} {l : List Value} {E : TypeId} (h : w.heap[b]? = some (cl l E)) (i : Nat) : w.cell? ⟨b, i, none⟩ = l[i]? := by
  simp [World.cell?, h, cl]
theorem frozen_cl {w : World} {b : Nat} {l : List Value} {E : TypeId} (h : w.heap[b]? = some (cl l E)) (i : Nat) : w.frozen? ⟨b, i, none⟩ = false := by
  simp [World.frozen?, h, cl]

theorem run_load1 {b i : Nat} {v : Value} (h : w.cell? ⟨b, i, none⟩ = some v) : (load ⟨b, i, none⟩).run P w = .ok v w := by
  simp [load, Sem.run, h]

theorem run_loadCellsFrom {b off : Nat} : ∀ (k i : Nat) (acc : Array Value) (l : List Value), (∀ j, j < k → w.cell? ⟨b, off + i + j, none⟩ = l[j]?) → l.length = k →
    (loadCellsFrom ⟨b, off, none⟩ i k acc).run P w = .ok (acc ++ l.toArray) w
  | 0, i, acc, l, _, hl => by
    have : l = [] := List.eq_nil_of_length_eq_zero hl
    subst this
    simp [loadCellsFrom, pure, Sem.run]
  | k + 1, i, acc, l, h, hl => by
    match l, hl with
    | v :: l, hl =>
      have h0 := h 0 (by omega)
      simp only [Nat.add_zero, List.getElem?_cons_zero] at h0
      have hr : (load ((⟨b, off, none⟩ : Addr).add i)).run P w = .ok v w := by rw [addr_add]; exact run_load1 h0
      simp only [loadCellsFrom]
      rw [run_bind hr, run_loadCellsFrom k (i + 1) (acc.push v) l (fun j hj => by
        have := h (j + 1) (by omega)
        simp only [List.getElem?_cons_succ] at this
        rw [← this]; congr 2; omega) (by simpa using hl)]
      simp

theorem run_loadCells {b off k : Nat} {l : List Value} {E : TypeId} (h : w.heap[b]? = some (cl l E)) (hk : off + k ≤ l.length) :
    (loadCells ⟨b, off, none⟩ k).run P w = .ok ((l.drop off).take k).toArray w := by
  unfold loadCells
  rw [run_loadCellsFrom k 0 #[] ((l.drop off).take k) (fun j hj => by
    rw [cell_cl h, List.getElem?_take]; simp [hj]) (by simp; omega)]
  simp

/-- Cells written one behind the other. -/
def splice (l : List Value) (off : Nat) : List Value → List Value
  | [] => l
  | v :: vs => splice (l.set off v) (off + 1) vs

theorem splice_length (vs : List Value) : ∀ (l : List Value) (off : Nat), (splice l off vs).length = l.length := by
  induction vs with
  | nil => intro l off; rfl
  | cons v vs ih => intro l off; simp [splice, ih]

theorem splice_getElem? (vs : List Value) : ∀ (l : List Value) (off i : Nat), off + vs.length ≤ l.length → (splice l off vs)[i]? = if off ≤ i ∧ i < off + vs.length then vs[i - off]? else l[i]? := by
  induction vs with
  | nil => intro l off i _; simp only [splice, List.length_nil]; rw [if_neg (by omega)]
  | cons v vs ih =>
    intro l off i hl
    simp only [splice, List.length_cons] at *
    rw [ih _ _ _ (by simp; omega)]
    by_cases h1 : off + 1 ≤ i ∧ i < off + 1 + vs.length
    · rw [if_pos h1, if_pos (by omega)]
      have : i - off = (i - (off + 1)) + 1 := by omega
      rw [this, List.getElem?_cons_succ]
    · rw [if_neg h1]
      by_cases h2 : i = off
      · subst h2
        rw [if_pos (by omega), List.getElem?_set_self (by omega)]
        simp
      · rw [if_neg (by omega), List.getElem?_set_ne (by omega)]

theorem splice_eq {vs l : List Value} {off : Nat} (h : off + vs.length ≤ l.length) : splice l off vs = l.take off ++ vs ++ l.drop (off + vs.length) := by
  apply List.ext_getElem?
  intro i
  rw [splice_getElem? _ _ _ _ h]
  by_cases h1 : i < off
  · rw [if_neg (by omega), List.append_assoc, List.getElem?_append_left (by simp; omega), List.getElem?_take, if_pos h1]
  · by_cases h2 : i < off + vs.length
    · rw [if_pos (by omega), List.append_assoc, List.getElem?_append_right (by simp; omega), List.getElem?_append_left (by simp; omega)]
      congr 1; simp; omega
    · rw [if_neg (by omega), List.getElem?_append_right (by simp; omega), List.getElem?_drop]
      congr 1; simp; omega

theorem splice_of {l r : List Value} {off : Nat} {vs : List Value} (e : splice l off vs = r) : splice l off vs = r := e

theorem run_store1 {b i : Nat} {l : List Value} {E : TypeId} {v : Value} (h : w.heap[b]? = some (cl l E)) (hi : i < l.length) (hv : oneC v = true) :
    (store ⟨b, i, none⟩ v).run P w = .ok () (w.setCell ⟨b, i, none⟩ v) := by
  have hc := cell_cl h i
  have hf := frozen_cl h i
  rw [List.getElem?_eq_getElem hi] at hc
  cases v <;> first | (simp [Vl.oneC] at hv; done) | simp [store, Sem.run, hc, hf]

theorem heap_setCell {w : World} {b i : Nat} {l : List Value} {E : TypeId} {v : Value} (h : w.heap[b]? = some (cl l E)) (k : Nat) :
    (w.setCell ⟨b, i, none⟩ v).heap[k]? = if k = b then some (cl (l.set i v) E) else w.heap[k]? := by
  simp only [World.setCell, Array.getElem?_modify]
  by_cases hk : b = k
  · subst hk
    simp [h, cl]
  · rw [if_neg hk, if_neg (Ne.symm hk)]

theorem run_storeCells {b off : Nat} {E : TypeId} : ∀ (vs : List Value) (i : Nat) (l : List Value) (w : World), w.heap[b]? = some (cl l E) → off + i + vs.length ≤ l.length → (∀ v ∈ vs, oneC v = true) →
    ∃ w', (storeCells ⟨b, off, none⟩ vs i).run P w = .ok () w' ∧ (∀ k, w'.heap[k]? = if k = b then some (cl (splice l (off + i) vs) E) else w.heap[k]?) ∧ w'.os = w.os ∧ w'.tape = w.tape ∧ w'.output = w.output
  | [], i, l, w, h, _, _ => ⟨w, by simp [storeCells, pure, Sem.run], fun k => by
      by_cases hk : k = b
      · subst hk; simp [splice, h]
      · simp [hk], rfl, rfl, rfl⟩
  | v :: vs, i, l, w, h, hl, hv => by
    have h1 := run_store1 (P := P) (i := off + i) (v := v) h (by simp at hl; omega) (hv v (by simp))
    have hb : (w.setCell ⟨b, off + i, none⟩ v).heap[b]? = some (cl (l.set (off + i) v) E) := by rw [heap_setCell h]; simp
    obtain ⟨w', hr, hh, e1, e2, e3⟩ := run_storeCells (b := b) (off := off) vs (i + 1) (l.set (off + i) v) _ hb (by simp at hl ⊢; omega) (fun u hu => hv u (by simp [hu]))
    refine ⟨w', ?_, fun k => ?_, e1, e2, e3⟩
    · simp only [storeCells]
      rw [addr_add, run_bind h1, hr]
    · rw [hh k, heap_setCell h]
      by_cases hk : k = b
      · simp [hk, splice, Nat.add_assoc]
      · simp [hk]
end

section
variable {P : Program} {n : Nat} {ρ : Env} {A : SP} {dst : Option Tmp} {ty : TypeId} {pos : String} {after : Array Edge} {gd : Option (Nat × Bool)}

theorem o_load {t : TypeId} {x : Operand} {b off : Nat} {l : List Value} {E : TypeId} {v : Value} (hp : plainE P t = true) (hx : ev n ρ x = .pointer (some ⟨b, off, none⟩)) (hh : Has A b (cl l E)) (hv : l[off]? = some v) :
    OpV P n ρ A ⟨dst, .load t x, ty, pos, after, gd⟩ v := fun g w hs => by
  have h := hh g w hs
  simp only [execOp, hx, Instr.loadAt, Instr.sureAddr]
  rw [run_bind (a := v) (w' := w)]
  · rfl
  rw [run_bind (w' := w) (a := (⟨b, off, none⟩ : Addr)) rfl]
  unfold loadVar
  rw [run_bind (run_isAgg_f hp)]
  exact run_load1 (by rw [cell_cl h, hv])

theorem o_loadN {t : TypeId} {x : Operand} {b off k : Nat} {l : List Value} {E : TypeId} {vs : List Value} (hp : aggE P t = true) (hk : szE P t = some k) (hx : ev n ρ x = .pointer (some ⟨b, off, none⟩)) (hh : Has A b (cl l E))
    (hl : off + k ≤ l.length) (hv : (l.drop off).take k = vs) : OpV P n ρ A ⟨dst, .load t x, ty, pos, after, gd⟩ (.agg vs.toArray) := fun g w hs => by
  have h := hh g w hs
  simp only [execOp, hx, Instr.loadAt, Instr.sureAddr]
  rw [run_bind (a := .agg vs.toArray) (w' := w)]
  · rfl
  rw [run_bind (w' := w) (a := (⟨b, off, none⟩ : Addr)) rfl]
  unfold loadVar
  rw [run_bind (run_isAgg_t hp)]
  simp only [if_true]
  rw [run_bind (run_size hk), run_bind (run_loadCells h hl), hv]
  rfl

/-- A store of a value of k cells. -/
theorem o_storeV {t : TypeId} {x y : Operand} {b off k : Nat} {l l' : List Value} {E : TypeId} {v : Value} {A' : SP} {vs : List Value} (hk : szE P t = some k) (hx : ev n ρ x = .pointer (some ⟨b, off, none⟩)) (hy : ev n ρ y = v)
    (hc : v.cells = vs.toArray) (hn : vs.length = k) (ho : ∀ u ∈ vs, oneC u = true) (hl : off + k ≤ l.length) (he : splice l off vs = l') (hu : Upd A b (cl l E) (cl l' E) A') : OpU P n ρ A ⟨dst, .store t x y, ty, pos, after, gd⟩ A' := fun g w hs => by
  have h := hu.has g w hs
  obtain ⟨w', hr, hh, e1, e2, e3⟩ := run_storeCells (P := P) (off := off) vs 0 l w h (by omega) ho
  refine ⟨w', ?_, hu.sat hs (fun j => by rw [hh j, ← he]; rfl) e1 e2 e3⟩
  simp only [execOp, hx, hy, Instr.storeAt, Instr.sureAddr]
  rw [run_bind (a := ()) (w' := w')]
  · rfl
  rw [run_bind (w' := w) (a := (⟨b, off, none⟩ : Addr)) rfl]
  unfold storeVar
  rw [run_bind (run_size hk), hc]
  simp only [List.size_toArray, hn, ne_eq, not_true_eq_false, if_false]
  have := hr
  simpa using this

theorem o_store {t : TypeId} {x y : Operand} {b off : Nat} {l l' : List Value} {E : TypeId} {v : Value} {A' : SP} (hk : szE P t = some 1) (hx : ev n ρ x = .pointer (some ⟨b, off, none⟩)) (hy : ev n ρ y = v)
    (ho : oneC v = true) (hl : off < l.length) (he : l.set off v = l') (hu : Upd A b (cl l E) (cl l' E) A') : OpU P n ρ A ⟨dst, .store t x y, ty, pos, after, gd⟩ A' :=
  o_storeV (vs := [v]) hk hx hy (by cases v <;> first | (simp [Vl.oneC] at ho; done) | rfl) rfl (by simpa using ho) (by omega) (by simpa [splice] using he) hu

theorem o_storeN {t : TypeId} {x y : Operand} {b off k : Nat} {l l' : List Value} {E : TypeId} {vs : List Value} {A' : SP} (hk : szE P t = some k) (hx : ev n ρ x = .pointer (some ⟨b, off, none⟩)) (hy : ev n ρ y = .agg vs.toArray)
    (hn : vs.length = k) (ho : vs.all oneC = true) (hl : off + k ≤ l.length) (he : splice l off vs = l') (hu : Upd A b (cl l E) (cl l' E) A') : OpU P n ρ A ⟨dst, .store t x y, ty, pos, after, gd⟩ A' :=
  o_storeV (vs := vs) hk hx hy rfl hn (fun u hu => List.all_eq_true.1 ho u hu) hl he hu

/-! ### New blocks -/

theorem run_newRow {E : TypeId} {l : List Value} {w : World} : (newRow E l.toArray).run P w = .ok ⟨w.heap.size, 0, none⟩ (w.alloc (cl l E)) := by
  rfl

/-- A new block of cells. -/
def New (A : SP) (l : List Value) (E : TypeId) : Value → SP → Prop := fun v B => ∃ b, v = .pointer (some ⟨b, 0, none⟩) ∧ B = A * pt b (cl l E)
def NewS (A : SP) (l : List Value) (E : TypeId) (k c : Nat) : Value → SP → Prop := fun v B => ∃ b, v = .slice (some ⟨b, 0, none⟩) k c ∧ B = A * pt b (cl l E)

theorem o_alloc {e : TypeId} {z : Value} {l : List Value} (hz : zeroE P e = some z) (hl : z.cells = l.toArray) : OpX P n ρ A ⟨dst, .alloc e, ty, pos, after, gd⟩ (New A l e) := fun g w hs => by
  refine ⟨_, w.alloc (cl l e), _, ?_, hs.alloc _, w.heap.size, rfl, rfl⟩
  simp only [execOp, Instr.alloc]
  rw [run_bind (a := .pointer (some ⟨w.heap.size, 0, none⟩)) (w' := w.alloc (cl l e))]
  · rfl
  rw [run_bind (run_zeroV hz)]
  simp only [newVar, hl]
  rw [run_bind run_newRow]
  rfl

theorem o_box {e : TypeId} {x : Operand} {v : Value} {l : List Value} (hx : ev n ρ x = v) (hl : v.cells = l.toArray) : OpX P n ρ A ⟨dst, .box e x, ty, pos, after, gd⟩ (New A l e) := fun g w hs => by
  refine ⟨_, w.alloc (cl l e), _, ?_, hs.alloc _, w.heap.size, rfl, rfl⟩
  simp only [execOp, Instr.box, newVar, hx, hl]
  rw [run_bind (a := .pointer (some ⟨w.heap.size, 0, none⟩)) (w' := w.alloc (cl l e))]
  · rfl
  rw [run_bind run_newRow]
  rfl

/-- A struct or an array of parts: by its own run, a closed fact. -/
theorem o_build {t : TypeId} {parts : Array (Nat × Operand)} {vs : List (Nat × Value)} {v : Value} (hx : parts.toList.map (fun p => (p.1, ev n ρ p.2)) = vs) (hr : ∀ w, (Instr.build t vs.toArray).run P w = .ok v w) :
    OpV P n ρ A ⟨dst, .build t parts, ty, pos, after, gd⟩ v := opv_of fun w => by
  have he : parts.map (fun p => (p.1, ev n ρ p.2)) = vs.toArray := Array.ext' (by rw [Array.toList_map, hx])
  simp only [execOp]
  rw [run_bind (a := v) (w' := w)]
  · rfl
  rw [← hr w, ← he]

/-- A slice of parts. -/
theorem o_buildSlice {t e : TypeId} {len k : Nat} {z : Value} {parts : Array (Nat × Operand)} {vs : List (Nat × Value)} {l : List Value} (hu : P.underlying t = some (.slice e)) (hk : szE P e = some k) (hz : zeroE P e = some z)
    (hx : parts.toList.map (fun p => (p.1, ev n ρ p.2)) = vs) (hle : len * k ≤ 16777216) (hpos : len * k ≠ 0)
    (hf : Instr.fill (fun i => some (i * k, k)) ((Array.range (len * k)).map (z.cells[· % z.cells.size]!)) vs = some l.toArray) :
    OpX P n ρ A ⟨dst, .buildSlice t len parts, ty, pos, after, gd⟩ (NewS A l e len len) := fun g w hs => by
  refine ⟨_, w.alloc (cl l e), _, ?_, hs.alloc _, w.heap.size, rfl, rfl⟩
  have he : parts.map (fun p => (p.1, ev n ρ p.2)) = vs.toArray := Array.ext' (by rw [Array.toList_map, hx])
  simp only [execOp]
  rw [run_bind (a := .slice (some ⟨w.heap.size, 0, none⟩) len len) (w' := w.alloc (cl l e))]
  · rfl
  show (Instr.buildSlice t len (parts.map fun p => (p.1, ev n ρ p.2))).run P w = _
  rw [he]
  unfold Instr.buildSlice
  rw [run_bind (run_und hu)]
  simp only []
  rw [run_bind (run_size hk)]
  rw [if_neg (by have : (2 : Nat) ^ 24 = 16777216 := by decide
                 omega)]
  simp only [hpos, if_false]
  rw [run_bind (run_zeroV hz)]
  show Sem.run P (match Instr.fill (fun i => some (i * k, k)) (Array.map (fun x => z.cells[x % z.cells.size]!) (Array.range (len * k))) vs with
    | some cells => _
    | _ => _) w = _
  rw [hf]
  simp only []
  rw [run_bind run_newRow]
  rfl

end
end Go.Vl
