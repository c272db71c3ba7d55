/- Owned slices within an assertion: reading and writing one element; slices of owned slices. Conditions: none. -/
import Derived.Test.YtimckjnnjakcoaaTypes
import Derived.Test.YtimckjnnjakcoaaNat
import Derived.Test.YtimckjnnjakcoaaBase
import Derived.Test.YtimckjnnjakcoaaBits
import Derived.Test.YtimckjnnjakcoaaProg
set_option linter.unusedVariables false
set_option linter.unusedSimpArgs false
namespace Go.Vl
open Go Go.Proofs


/-- X within A; with Y in its place, A'. -/
def Foc (A X Y A' : SP) : Prop := ∃ R, A = R * X ∧ A' = R * Y
theorem foc_here {R X Y : SP} : Foc (R * X) X Y (R * Y) := ⟨R, rfl, rfl⟩
theorem foc_left {A A' X Y Z : SP} (h : Foc A X Y A') : Foc (A * Z) X Y (A' * Z) := by
  obtain ⟨R, rfl, rfl⟩ := h
  exact ⟨R * Z, star_swap _ _ _, star_swap _ _ _⟩
theorem Foc.have_sl {A A' Y : SP} {k n : Nat} {v : Value} {xs : List Value} (h : Foc A (Sl k v n xs) Y A') {g : Gh} {w : World} (hs : sat g w A) :
    ∃ a cap, v = .slice a n cap ∧ n ≤ cap ∧ xs.length = n * k ∧ Rd A a xs := by
  obtain ⟨R, rfl, rfl⟩ := h
  exact sl_have hs
/-- A slice of at least one element: where it lies. -/
theorem Foc.have_sl1 {A A' Y : SP} {k n : Nat} {v : Value} {xs : List Value} (h : Foc A (Sl k v n xs) Y A') (hn : 0 < n * k) {g : Gh} {w : World} (hs : sat g w A) :
    ∃ b o cap, v = .slice (some ⟨b, o, none⟩) n cap ∧ n ≤ cap ∧ xs.length = n * k := by
  obtain ⟨a, cap, e, h1, h2, h3⟩ := h.have_sl hs
  obtain ⟨b, o, rfl, _⟩ := h3.some (by omega)
  exact ⟨b, o, cap, e, h1, h2⟩
section
variable {P : Program} {n : Nat} {ρ : Env} {A : SP} {dst : Option Tmp} {ty : TypeId} {pos : String} {after : Array Edge} {gd : Option (Nat × Bool)}
theorem cell_foc {A A' Y : SP} {k m c b o i : Nat} {xs : List Value} {v : Value} (hf : Foc A (Sl k (.slice (some ⟨b, o, none⟩) m c) m xs) Y A') (hv : xs[i]? = some v) : Cell A b (o + i) v := fun g w hs => by
  obtain ⟨a, cap, e, h1, h2, h3⟩ := hf.have_sl hs
  simp only [Value.slice.injEq] at e
  rw [← e.1] at h3
  have hi : i < xs.length := (List.getElem?_eq_some_iff.1 hv).1
  obtain ⟨b', o', e', hc⟩ := h3.some (by omega)
  simp only [Option.some.injEq, Addr.mk.injEq] at e'
  rw [e'.1, e'.2.1]
  exact hc i v hv g w hs
theorem o_loadSl {t : TypeId} {x : Operand} {k m c b o i : Nat} {xs : List Value} {v : Value} {A' Y : SP} (hp : plainE P t = true) (hx : ev n ρ x = .pointer (some ⟨b, o + i, none⟩))
    (hf : Foc A (Sl k (.slice (some ⟨b, o, none⟩) m c) m xs) Y A') (hv : xs[i]? = some v) : OpV P n ρ A ⟨dst, .load t x, ty, pos, after, gd⟩ v := o_loadC hp hx (cell_foc hf hv)
theorem o_ldSl {t : TypeId} {x : Operand} {k m c b o i : Nat} {xs : List Value} {v : Value} {A' : SP} (hp : plainE P t = true) (hx : ev n ρ x = .pointer (some ⟨b, o + i, none⟩))
    (hf : Foc A (Sl k (.slice (some ⟨b, o, none⟩) m c) m xs) (Sl k (.slice (some ⟨b, o, none⟩) m c) m xs) A') (hv : xs[i]? = some v) : OpV P n ρ A ⟨dst, .load t x, ty, pos, after, gd⟩ v := o_loadC hp hx (cell_foc hf hv)
theorem o_storeSl {t : TypeId} {x y : Operand} {m c b o i : Nat} {xs : List Value} {v : Value} {A' : SP} (hk : szE P t = some 1) (hx : ev n ρ x = .pointer (some ⟨b, o + i, none⟩)) (hy : ev n ρ y = v) (ho : oneC v = true) (hi : i < m)
    (hf : Foc A (Sl 1 (.slice (some ⟨b, o, none⟩) m c) m xs) (Sl 1 (.slice (some ⟨b, o, none⟩) m c) m (xs.set i v)) A') : OpU P n ρ A ⟨dst, .store t x y, ty, pos, after, gd⟩ A' := fun g w hs => by
  obtain ⟨R, rfl, rfl⟩ := hf
  obtain ⟨hl, ⟨e1, _⟩ | ⟨b', off, cap, l, E, e1, h1, h2, h3, hs'⟩⟩ := sl_iff.1 hs
  · cases e1
  · simp only [Value.slice.injEq, Option.some.injEq, Addr.mk.injEq] at e1
    obtain ⟨⟨rfl, rfl, _⟩, _, rfl⟩ := e1
    obtain ⟨w', hr, hw'⟩ := o_store (A := R * pt b (cl l E)) (dst := dst) (ty := ty) (pos := pos) (after := after) (gd := gd) hk hx hy ho (by omega) rfl upd_here g w hs'
    refine ⟨w', hr, sl_iff.2 ⟨by rw [List.length_set]; exact hl, .inr ⟨b, o, c, _, E, rfl, h1, by rw [List.length_set]; exact h2, ?_, hw'⟩⟩⟩
    rw [← h3]
    apply List.ext_getElem?
    intro j
    simp only [List.getElem?_take, List.getElem?_drop, List.getElem?_set, List.length_take, List.length_drop]
    by_cases hj : j < m * 1
    · by_cases hij : i = j
      · subst hij
        simp only [hj, if_true]
        rw [if_pos (by omega), if_pos (by omega)]
      · simp only [hj, if_true, hij, if_false]
        rw [if_neg (by omega)]
    · simp only [hj, if_false]
      rw [if_neg (by omega)]
end
theorem wds_set' (s : List Nat) (k v : Nat) : (wds s).set k (.int .u64 (v : Nat)) = wds (s.set k v) := by simp [wds, List.map_set]; rfl
theorem ints_set (s : List Int) (k : Nat) (v : Int) : (ints s).set k (.int .i64 v) = ints (s.set k v) := by simp [ints, List.map_set]; rfl
def bos (l : List Bool) : List Value := l.map Value.bool
theorem bos_set (s : List Bool) (k : Nat) (v : Bool) : (bos s).set k (.bool v) = bos (s.set k v) := by simp [bos, List.map_set]
theorem bos_at {xs : List Bool} {i : Nat} (h : i < xs.length) : (bos xs)[i]? = some (.bool xs[i]) := by simp [bos, h]
theorem bos_length (xs : List Bool) : (bos xs).length = xs.length := by simp [bos]

/-- Owned slices of words, one for each value. -/
def Words : List Value → List (List Nat) → SP
  | v :: vs, x :: xs => Words vs xs * Sl 1 v x.length (wds x)
  | [], [] => emp
  | _, _ => pure_ False
theorem words_get : ∀ {vs : List Value} {ls : List (List Nat)} {i : Nat} (h : vs.length = ls.length) (hi : i < ls.length),
    ∃ R, Words vs ls = R * Sl 1 (vs[i]'(by omega)) ls[i].length (wds ls[i]) ∧ ∀ v l, Words (vs.set i v) (ls.set i l) = R * Sl 1 v l.length (wds l)
  | [], [], _, _, hi => by simp at hi
  | v :: vs, l :: ls, 0, h, _ => ⟨Words vs ls, rfl, fun _ _ => rfl⟩
  | v :: vs, l :: ls, i + 1, h, hi => by
    obtain ⟨R, h1, h2⟩ := words_get (vs := vs) (ls := ls) (i := i) (by simpa using h) (by simpa using hi)
    refine ⟨R * Sl 1 v l.length (wds l), ?_, fun u m => ?_⟩
    · simp only [Words, List.getElem_cons_succ]; rw [h1, star_swap]
    · simp only [List.set_cons_succ, Words]; rw [h2, star_swap]
theorem words_snoc : ∀ {vs : List Value} {ls : List (List Nat)} {v : Value} {x : List Nat} (_ : vs.length = ls.length), Words (vs ++ [v]) (ls ++ [x]) = Words vs ls * Sl 1 v x.length (wds x)
  | [], [], _, _, _ => rfl
  | u :: vs, y :: ls, v, x, h => by
    show Words (vs ++ [v]) (ls ++ [x]) * Sl 1 u y.length (wds y) = _
    rw [words_snoc (by simpa using h)]
    show _ = Words vs ls * Sl 1 u y.length (wds y) * Sl 1 v x.length (wds x)
    rw [star_swap]
theorem cells_foc {A A' Y : SP} {k m c b o : Nat} {xs : List Value} (hf : Foc A (Sl k (.slice (some ⟨b, o, none⟩) m c) m xs) Y A') : Cells A b o xs := fun i v hv => cell_foc hf hv
/-- The cells of a row that a store has left. -/
theorem sl_splice {o m c k i : Nat} {l xs vs : List Value} (h1 : m ≤ c) (h2 : o + c * k ≤ l.length) (h3 : (l.drop o).take (m * k) = xs) (hi : i + vs.length ≤ m * k) : ((splice l (o + i) vs).drop o).take (m * k) = splice xs i vs := by
  have hmc : m * k ≤ c * k := Nat.mul_le_mul_right k h1
  have hxl : xs.length = m * k := by rw [← h3, List.length_take, List.length_drop]; omega
  apply List.ext_getElem?
  intro j
  rw [List.getElem?_take, List.getElem?_drop, splice_getElem? _ _ _ _ (by omega), splice_getElem? _ _ _ _ (by omega)]
  by_cases hj : j < m * k
  · rw [if_pos hj]
    by_cases h : i ≤ j ∧ j < i + vs.length
    · rw [if_pos (by omega), if_pos h]; congr 1; omega
    · rw [if_neg (by omega), if_neg h, ← h3, List.getElem?_take, if_pos hj, List.getElem?_drop]
  · rw [if_neg hj, if_neg (by omega), List.getElem?_eq_none (by omega)]
section
variable {P : Program} {n : Nat} {ρ : Env} {A : SP} {dst : Option Tmp} {ty : TypeId} {pos : String} {after : Array Edge} {gd : Option (Nat × Bool)}
theorem o_loadSlN {t : TypeId} {x : Operand} {k m c b o i q : Nat} {xs vs : List Value} {A' Y : SP} (hp : aggE P t = true) (hk : szE P t = some q) (hx : ev n ρ x = .pointer (some ⟨b, o + i, none⟩))
    (hf : Foc A (Sl k (.slice (some ⟨b, o, none⟩) m c) m xs) Y A') (hv : (xs.drop i).take q = vs) (hl : vs.length = q) : OpV P n ρ A ⟨dst, .load t x, ty, pos, after, gd⟩ (.agg vs.toArray) :=
  o_loadNC hp hk hx hl ((cells_foc hf).sub i q hv)
/-- A store into an owned slice. -/
theorem o_storeSlV {t : TypeId} {x y : Operand} {k m c b o i q : Nat} {xs ys vs : List Value} {v : Value} {A' : SP} (hk : szE P t = some q) (hx : ev n ρ x = .pointer (some ⟨b, o + i, none⟩)) (hy : ev n ρ y = v)
    (hc : v.cells = vs.toArray) (hn : vs.length = q) (ho : ∀ u ∈ vs, oneC u = true) (hi : i + q ≤ m * k) (he : splice xs i vs = ys)
    (hf : Foc A (Sl k (.slice (some ⟨b, o, none⟩) m c) m xs) (Sl k (.slice (some ⟨b, o, none⟩) m c) m ys) A') : OpU P n ρ A ⟨dst, .store t x y, ty, pos, after, gd⟩ A' := fun g w hs => by
  obtain ⟨R, rfl, rfl⟩ := hf
  obtain ⟨hl, ⟨e1, _⟩ | ⟨b', off, cap, l, E, e1, h1, h2, h3, hs'⟩⟩ := sl_iff.1 hs
  · cases e1
  · simp only [Value.slice.injEq, Option.some.injEq, Addr.mk.injEq] at e1
    obtain ⟨⟨rfl, rfl, _⟩, _, rfl⟩ := e1
    have hmc : m * k ≤ c * k := Nat.mul_le_mul_right k h1
    obtain ⟨w', hr, hw'⟩ := o_storeV (A := R * pt b (cl l E)) (dst := dst) (ty := ty) (pos := pos) (after := after) (gd := gd) hk hx hy hc hn ho (by omega) rfl upd_here g w hs'
    refine ⟨w', hr, sl_iff.2 ⟨by rw [← he, splice_length]; exact hl, .inr ⟨b, o, c, _, E, rfl, h1, by rw [splice_length]; exact h2, ?_, hw'⟩⟩⟩
    rw [← he]
    exact sl_splice h1 h2 h3 (by omega)
theorem o_storeSlN {t : TypeId} {x y : Operand} {k m c b o i q : Nat} {xs ys vs : List Value} {A' : SP} (hk : szE P t = some q) (hx : ev n ρ x = .pointer (some ⟨b, o + i, none⟩)) (hy : ev n ρ y = .agg vs.toArray)
    (hn : vs.length = q) (ho : vs.all oneC = true) (hi : i + q ≤ m * k) (he : splice xs i vs = ys)
    (hf : Foc A (Sl k (.slice (some ⟨b, o, none⟩) m c) m xs) (Sl k (.slice (some ⟨b, o, none⟩) m c) m ys) A') : OpU P n ρ A ⟨dst, .store t x y, ty, pos, after, gd⟩ A' :=
  o_storeSlV hk hx hy rfl hn (fun u hu => List.all_eq_true.1 ho u hu) hi he hf
theorem o_storeSlK {t : TypeId} {x y : Operand} {k m c b o i : Nat} {xs ys : List Value} {v : Value} {A' : SP} (hk : szE P t = some 1) (hx : ev n ρ x = .pointer (some ⟨b, o + i, none⟩)) (hy : ev n ρ y = v) (ho : oneC v = true) (hi : i < m * k) (he : xs.set i v = ys)
    (hf : Foc A (Sl k (.slice (some ⟨b, o, none⟩) m c) m xs) (Sl k (.slice (some ⟨b, o, none⟩) m c) m ys) A') : OpU P n ρ A ⟨dst, .store t x y, ty, pos, after, gd⟩ A' :=
  o_storeSlV (vs := [v]) hk hx hy (by cases v <;> first | (simp [Vl.oneC] at ho; done) | rfl) rfl (by simpa using ho) (by omega) (by simpa [splice] using he) hf
end
theorem bys_set (s : List Nat) (k v : Nat) : (bys s).set k (.int .u8 (v : Nat)) = bys (s.set k v) := by simp [bys, List.map_set]; rfl
/-- The first elements are changed. -/
def pm {α : Type} (f : Nat → α → α) (k : Nat) (l : List α) : List α := l.mapIdx fun i x => if i < k then f i x else x
theorem pm_length {α : Type} (f : Nat → α → α) (k : Nat) (l : List α) : (pm f k l).length = l.length := by simp [pm]
theorem pm_zero {α : Type} (f : Nat → α → α) (l : List α) : pm f 0 l = l := by
  apply List.ext_getElem?
  intro j; simp [pm, List.getElem?_mapIdx]
theorem pm_at {α : Type} (f : Nat → α → α) {k : Nat} {l : List α} (h : k < l.length) : (pm f k l)[k]'(by rw [pm_length]; exact h) = l[k] := by simp [pm]
theorem pm_set {α : Type} (f : Nat → α → α) {k : Nat} {l : List α} (h : k < l.length) : (pm f k l).set k (f k l[k]) = pm f (k + 1) l := by
  apply List.ext_getElem?
  intro j
  by_cases hj : j = k
  · subst hj
    rw [List.getElem?_set_self (by rw [pm_length]; exact h)]
    simp [pm, List.getElem?_mapIdx, h]
  · rw [List.getElem?_set_ne (Ne.symm hj)]
    simp only [pm, List.getElem?_mapIdx]
    by_cases hlt : j < k
    · simp [hlt, show j < k + 1 by omega]
    · simp [hlt, show ¬ j < k + 1 by omega]
theorem pm_same {α : Type} (f : Nat → α → α) {k : Nat} {l : List α} (h : k < l.length) (he : f k l[k] = l[k]) : pm f (k + 1) l = pm f k l := by
  rw [← pm_set f h, he]
  have := set_getElem (l := pm f k l) (i := k) (by rw [pm_length]; exact h)
  rwa [pm_at f h] at this
theorem pm_all {α : Type} (f : Nat → α → α) (l : List α) : pm f l.length l = l.mapIdx f := by
  apply List.ext_getElem?
  intro j
  simp only [pm, List.getElem?_mapIdx]
  rcases Nat.lt_or_ge j l.length with h | h
  · simp [h]
  · simp [h]

end Go.Vl
