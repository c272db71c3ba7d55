/- What arguments read: data of any shape, into facts on the world as it was. Conditions: none. -/
import Derived.Test.YtimckjnnjakcoaaV2
import Derived.Deep.Slices
import Derived.OpenShut
import Derived.ChangeArms
import Derived.SizedLaws
import Derived.ChangeSame
set_option linter.unusedVariables false
set_option linter.unusedSimpArgs false
namespace Go.Vl
open Go Go.Proofs


theorem old_heap' {W w : World} {g : Gh} (h : sat g w (old W)) {k : Nat} (hk : k < W.heap.size) : w.heap[k]? = W.heap[k]? := by
  obtain ⟨x, rfl, hx⟩ := h.hp
  have := Array.getElem?_eq_getElem hk
  rw [this]; exact hx _ _ true (by simp [this])
theorem cell_old' {W : World} {b off : Nat} {v : Value} (h : W.cell? ⟨b, off, none⟩ = some v) : Cell (old W) b off v := fun g w hs => by
  have hb : b < W.heap.size := by
    rcases Nat.lt_or_ge b W.heap.size with h1 | h1
    · exact h1
    · exfalso
      have : W.heap[b]? = none := Array.getElem?_eq_none h1
      simp [World.cell?, this] at h
  have := old_heap' hs hb
  rw [← h]; simp only [World.cell?, this]
theorem rs_old {W : World} {a : Addr} {xs : List Value} (h : ∀ i v, xs[i]? = some v → W.cell? (a.add i) = some v) : Rs (old W) (some a) xs := by
  cases xs with
  | nil => exact rs_nil
  | cons x l =>
    obtain ⟨b, off, spot⟩ := a
    have h0 := h 0 x rfl
    have hspot : spot = none := by simpa [Addr.add] using World.cell?_spot h0
    subst hspot
    refine fun g w hs i v hv => ⟨b, off, rfl, ?_⟩
    have := h i v hv
    rw [WideShapes.add_plain] at this
    exact cell_old' this g w hs
/-- Whatever lies there as a value of type t, by the argument's own reading, r holds of. -/
def Rdb {α : Type} (P : Program) (W : World) (t : TypeId) (r : List Value → α → Prop) : Prop :=
  ∀ (H : Type) (enc : TypeId × Value → H) (spare : Nat → Bool) (held : Bool) (fuel : Nat) (cs : List Value) (d : DataW H) (pl : List MemPlace),
    DataW.trod enc P W 0 spare held fuel t cs = some (d, pl) → (∀ n ∈ d.weights P t, n ≤ reachBytes) → ∃ x, r cs x
theorem Rdb.mono {α β : Type} {P : Program} {W : World} {t : TypeId} {r : List Value → α → Prop} {q : List Value → β → Prop} (h : Rdb P W t r) (k : ∀ cs x, r cs x → ∃ y, q cs y) : Rdb P W t q :=
  fun H enc sp hd fu cs d pl h1 h2 => by obtain ⟨x, hx⟩ := h H enc sp hd fu cs d pl h1 h2; exact k cs x hx
def PInt (k : IntKind) (cs : List Value) (n : Int) : Prop := cs = [.int k n] ∧ (Lit.int k n).wf = true
theorem rdb_int {P : Program} {W : World} {t : TypeId} {k : IntKind} (ht : P.underlying t = some (.int k)) : Rdb P W t (PInt k) := fun H enc sp hd fu cs d pl h _ => by
  obtain ⟨n, e, _, hw⟩ := DataW.trod_int ht h
  exact ⟨n, e, hw⟩
def PBool (cs : List Value) (b : Bool) : Prop := cs = [.bool b]
theorem rdb_bool {P : Program} {W : World} {t : TypeId} (ht : P.underlying t = some .bool) : Rdb P W t PBool := fun H enc sp hd fu cs d pl h _ => by
  obtain ⟨b, e, _⟩ := DataW.trod_bool ht h
  exact ⟨b, e⟩
/-- A slice: its elements' cells, and what each is. -/
def PSl {α : Type} (A : SP) (k b : Nat) (r : List Value → α → Prop) (cs : List Value) (xs : List α) : Prop :=
  ∃ (a : Option Addr) (cap : Nat) (Cs : List (List Value)), cs = [.slice a xs.length cap] ∧ xs.length ≤ cap ∧ xs.length * b ≤ reachBytes ∧ Cs.length = xs.length ∧ (∀ i (h : i < xs.length) (h' : i < Cs.length), Cs[i].length = k ∧ r Cs[i] xs[i]) ∧ Rs A a Cs.flatten
theorem weightsAll_mem {H : Type} {P : Program} {e : TypeId} : ∀ {l : List (DataW H)} {d : DataW H}, d ∈ l → ∀ n ∈ d.weights P e, n ∈ DataW.weightsAll P e l
  | x :: l, d, h, n, hn => by
    simp only [DataW.weightsAll, List.mem_append]
    rcases List.mem_cons.1 h with rfl | h
    · exact .inl hn
    · exact .inr (weightsAll_mem h n hn)
theorem flat_at {k : Nat} : ∀ {Cs : List (List Value)} (_ : ∀ c ∈ Cs, c.length = k) {i j : Nat} (_ : j < k) (hi : i < Cs.length), Cs.flatten[i * k + j]? = Cs[i][j]?
  | c :: Cs, h, 0, j, hj, _ => by
    rw [Nat.zero_mul, Nat.zero_add, List.flatten_cons, List.getElem?_append_left (by rw [h c (by simp)]; exact hj)]; rfl
  | c :: Cs, h, i + 1, j, hj, hi => by
    have hc := h c (by simp)
    rw [List.flatten_cons, List.getElem?_append_right (by rw [hc, Nat.add_mul]; omega), hc, show (i + 1) * k + j - k = i * k + j by rw [Nat.add_mul]; omega]
    exact flat_at (fun x hx => h x (List.mem_cons_of_mem _ hx)) hj (by simpa using hi)
theorem flat_length {k : Nat} : ∀ {Cs : List (List Value)} (_ : ∀ c ∈ Cs, c.length = k), Cs.flatten.length = Cs.length * k
  | [], _ => by simp
  | c :: Cs, h => by
    rw [List.flatten_cons, List.length_append, h c (by simp), flat_length (fun x hx => h x (List.mem_cons_of_mem _ hx)), List.length_cons, Nat.add_mul]; omega
theorem rdb_slice {α : Type} {P : Program} {W : World} {t e : TypeId} {k b : Nat} {r : List Value → α → Prop} (ht : P.underlying t = some (.slice e)) (hk : P.cellsOf e = k) (hb : P.bytesOf e = b) (hk0 : 0 < k) (hr : Rdb P W e r) : Rdb P W t (PSl (old W) k b r) := fun H enc sp hd fu cs d pl h hw => by
  rcases Deep.open_slice ht h with ⟨rfl, _⟩ | ⟨a, len, cap, m, n, D, Pl, rfl, _, hl, _, hm, hx, hel⟩
  · exact ⟨[], none, 0, [], rfl, Nat.le_refl _, by simp, rfl, fun i h => by simp at h, rs_nil⟩
  · have hlm : len ≤ m := by rw [hm]; split <;> omega
    simp only [Prod.mk.injEq] at hx
    obtain ⟨rfl, _⟩ := hx
    have hall : ∀ n ∈ DataW.weights P t (DataW.slice ((List.range len).map D) ((List.range (m - len)).map fun j => D (len + j))), n ≤ reachBytes := hw
    have hw1 : (len + (m - len)) * P.bytesOf e ≤ reachBytes := by
      have := hall ((len + (m - len)) * P.bytesOf e) (by simp [DataW.weights, ht])
      exact this
    have hex : ∀ i, i < len → ∃ p : List Value × α, p.1.length = k ∧ r p.1 p.2 ∧ ∀ j v, p.1[j]? = some v → W.cell? (a.add (i * k + j)) = some v := fun i hi => by
      obtain ⟨cs', h1, h2⟩ := hel i (by omega)
      rw [hk] at h1
      obtain ⟨_, hlen, h3⟩ := World.cells?_some h1
      obtain ⟨x, hx⟩ := hr H enc sp hd n cs' (D i) (Pl i) h2 (fun n hn => hall n (by
        simp only [DataW.weights, ht, List.mem_cons, List.mem_append]
        refine .inr (.inl (weightsAll_mem (d := D i) ?_ n hn))
        exact List.mem_map.2 ⟨i, List.mem_range.2 hi, rfl⟩))
      refine ⟨(cs', x), hlen, hx, fun j v hv => ?_⟩
      have hj : j < k := by have h9 : j < cs'.length := lt_at hv; omega
      have := h3 j hj
      rw [Deep.add_add] at this
      rw [this, hv]
    rcases Nat.eq_zero_or_pos len with h0 | h0
    · subst h0
      exact ⟨[], some a, cap, [], rfl, Nat.zero_le _, by simp, rfl, fun i h => by simp at h, rs_nil⟩
    · obtain ⟨p0, _⟩ := hex 0 h0
      haveI : Inhabited (List Value × α) := ⟨p0⟩
      obtain ⟨f, hf⟩ := Deep.choose_lt hex
      refine ⟨(List.range len).map fun i => (f i).2, some a, cap, (List.range len).map fun i => (f i).1, by simp, by simpa using hl, ?_, by simp, fun i h h' => ?_, rs_old fun i v hv => ?_⟩
      · simp only [List.length_map, List.length_range, ← hb]
        exact Nat.le_trans (Nat.mul_le_mul_right _ (by omega)) hw1
      · simp only [List.length_map, List.length_range] at h
        simp only [List.getElem_map, List.getElem_range]
        exact ⟨(hf i h).1, (hf i h).2.1⟩
      · have hCk : ∀ c ∈ (List.range len).map fun i => (f i).1, c.length = k := fun c hc => by
          obtain ⟨i, hi, rfl⟩ := List.mem_map.1 hc
          exact (hf i (List.mem_range.1 hi)).1
        have hi := lt_at hv
        rw [flat_length hCk, List.length_map, List.length_range] at hi
        have hq : i / k < len := Nat.div_lt_of_lt_mul (by rw [Nat.mul_comm]; exact hi)
        have hm2 : i % k < k := Nat.mod_lt _ hk0
        have e : i = i / k * k + i % k := (Nat.div_add_mod' i k).symm
        rw [e, flat_at hCk hm2 (by simpa using hq)] at hv
        simp only [List.getElem_map, List.getElem_range] at hv
        rw [e]
        exact (hf (i / k) hq).2.2 _ v hv
/-- The fields of a struct, one by one. -/
theorem rdb_fields {P : Program} {W : World} {t : TypeId} {fs : Array Field} (ht : P.underlying t = some (.struct fs)) {H : Type} {enc : TypeId × Value → H} {sp : Nat → Bool} {hd : Bool} {fu : Nat} {cs : List Value} {d : DataW H} {pl : List MemPlace}
    (h : DataW.trod enc P W 0 sp hd fu t cs = some (d, pl)) (hw : ∀ n ∈ d.weights P t, n ≤ reachBytes) : cs.length = P.cellsOf t ∧
    ∀ (j : Nat) (f : Field), fs[j]? = some f → ∀ {α : Type} {r : List Value → α → Prop}, Rdb P W f.type r → ∃ x, r ((cs.drop f.offset).take (P.cellsOf f.type)) x := by
  obtain ⟨xs, n, _, hx, hl, hlen, hf⟩ := DataW.trod_struct ht h
  refine ⟨hl, fun j f hj α r hr => ?_⟩
  simp only [Prod.mk.injEq] at hx
  obtain ⟨rfl, _⟩ := hx
  have hj' : j < xs.length := by
    have h1 : j < fs.size := (Array.getElem?_eq_some_iff.1 hj).1
    have h2 : xs.length = fs.size := by simpa using hlen
    omega
  have := hf j f hj
  rw [List.getElem?_eq_getElem hj'] at this
  refine hr H enc sp hd n _ xs[j].1 xs[j].2 this (fun m hm => hw m ?_)
  simp only [DataW.weights, ht]
  exact DataW.weights_mem_each (ts := fs.toList.map (·.type)) (ds := xs.map (·.1)) (j := j) (t := f.type) (d := xs[j].1) (by simp [hj]) (by simp [hj']) m hm
theorem flat1 {α : Type} {r : List Value → α → Prop} {f : α → Value} : ∀ {Cs : List (List Value)} {xs : List α} (_ : Cs.length = xs.length) (_ : ∀ i (h : i < xs.length) (h' : i < Cs.length), Cs[i] = [f xs[i]]), Cs.flatten = xs.map f
  | [], [], _, _ => rfl
  | c :: Cs, x :: xs, hl, h => by
    have h0 := h 0 (by simp) (by simp)
    simp only [List.getElem_cons_zero] at h0
    rw [List.flatten_cons, h0, flat1 (r := r) (f := f) (Cs := Cs) (xs := xs) (by simpa using hl) (fun i hi hi' => h (i + 1) (by simpa using hi) (by simpa using hi'))]; rfl
/-- Bytes. -/
def PBys (A : SP) (cs : List Value) (xs : List Nat) : Prop := ∃ a cap, cs = [.slice a xs.length cap] ∧ xs.length ≤ cap ∧ xs.length ≤ 140737488351232 ∧ Rs A a (bys xs) ∧ ∀ x ∈ xs, x < 256
def PInts (A : SP) (cs : List Value) (xs : List Int) : Prop := ∃ a cap, cs = [.slice a xs.length cap] ∧ xs.length ≤ cap ∧ xs.length ≤ 17592186043904 ∧ Rs A a (ints xs) ∧ ∀ x ∈ xs, -9223372036854775808 ≤ x ∧ x ≤ 9223372036854775807
theorem i64_wf {x : Int} (h : (Lit.int .i64 x).wf = true) : -9223372036854775808 ≤ x ∧ x ≤ 9223372036854775807 := Go.bounds_i64 h
theorem rdb_bys {P : Program} {W : World} {t e : TypeId} (ht : P.underlying t = some (.slice e)) (he : P.underlying e = some (.int .u8)) (hk : P.cellsOf e = 1) (hb : P.bytesOf e = 1) : Rdb P W t (PBys (old W)) :=
  (rdb_slice ht hk hb (by decide) (rdb_int he)).mono fun cs zs ⟨a, cap, Cs, e1, hc, hs, hl, hx, hr⟩ => by
    have hz : ∀ z ∈ zs, 0 ≤ z ∧ z ≤ 255 := fun z hz => by
      obtain ⟨i, hi, rfl⟩ := List.mem_iff_getElem.1 hz
      exact Go.bounds_u8 (hx i hi (by omega)).2.2
    have e2 : Cs.flatten = bys (zs.map Int.toNat) := by
      rw [flat1 (r := PInt .u8) (f := fun z : Int => .int .u8 z) hl (fun i h h' => (hx i h h').2.1), bys, List.map_map]
      refine List.map_congr_left fun z hzm => ?_
      have := hz z hzm
      simp only [Function.comp, b8]; congr 1; omega
    refine ⟨zs.map Int.toNat, a, cap, by simpa using e1, by simpa using hc, ?_, by rw [← e2]; exact hr, fun x hx => ?_⟩
    · simp only [List.length_map]; unfold reachBytes at hs; omega
    · obtain ⟨z, hzm, rfl⟩ := List.mem_map.1 hx
      have := hz z hzm; omega
theorem rdb_ints {P : Program} {W : World} {t e : TypeId} (ht : P.underlying t = some (.slice e)) (he : P.underlying e = some (.int .i64)) (hk : P.cellsOf e = 1) (hb : P.bytesOf e = 8) : Rdb P W t (PInts (old W)) :=
  (rdb_slice ht hk hb (by decide) (rdb_int he)).mono fun cs zs ⟨a, cap, Cs, e1, hc, hs, hl, hx, hr⟩ => by
    refine ⟨zs, a, cap, e1, hc, by unfold reachBytes at hs; omega, ?_, fun z hz => ?_⟩
    · rw [show ints zs = Cs.flatten from (flat1 (r := PInt .i64) (f := fun z : Int => .int .i64 z) hl (fun i h h' => (hx i h h').2.1)).symm]; exact hr
    · obtain ⟨i, hi, rfl⟩ := List.mem_iff_getElem.1 hz
      exact i64_wf (hx i hi (by omega)).2.2
theorem cells_one {v : Value} {c : Value} (h : v.cells.toList = [c]) (hv : oneC v = true) : v = c := by
  cases v <;> first | (simp [oneC] at hv; done) | (simp [Value.cells] at h; exact h)

end Go.Vl
