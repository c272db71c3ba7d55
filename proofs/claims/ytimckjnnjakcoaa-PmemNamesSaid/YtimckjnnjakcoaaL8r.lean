/- What an argument reads: into facts on the world as it was. Conditions: none. -/
import Derived.Test.YtimckjnnjakcoaaL8k
import Derived.Deep.Slices
import Derived.OpenShut
set_option linter.unusedVariables false
set_option linter.unusedSimpArgs false
namespace Go.Vl
open Go Go.Proofs


theorem old_heap {W w : World} {g : Gh} (h : sat g w (old W)) {k : Nat} (hk : k < W.heap.size) : w.heap[k]? = W.heap[k]? := by
  obtain ⟨x, rfl, hx⟩ := h.hp
  have := Array.getElem?_eq_getElem hk
  rw [this]; exact hx _ _ true (by simp [this])
theorem cell_old {W : World} {b off : Nat} {v : Value} (h : W.cell? ⟨b, off, none⟩ = some v) : Cell (old W) b off v := fun g w hs => by
  have hb : b < W.heap.size := by
    rcases Nat.lt_or_ge b W.heap.size with h1 | h1
    · exact h1
    · exfalso
      have : W.heap[b]? = none := Array.getElem?_eq_none h1
      simp [World.cell?, this] at h
  have := old_heap hs hb
  rw [← h]; simp only [World.cell?, this]
theorem rd_old {W : World} {a : Addr} {xs : List Value} (h : ∀ i v, xs[i]? = some v → W.cell? (a.add i) = some v) : Rd (old W) (some a) xs := by
  cases xs with
  | nil => exact .inl rfl
  | cons x l =>
    obtain ⟨b, off, spot⟩ := a
    have h0 := h 0 x rfl
    have hspot : spot = none := by simpa [Addr.add] using World.cell?_spot h0
    subst hspot
    refine rd_cells fun i v hv => cell_old ?_
    have := h i v hv
    rwa [WideShapes.add_plain] at this
theorem rd_ints {W : World} {k : IntKind} {a : Addr} {len : Nat} {zs : List Int} (hl : len ≤ zs.length) (h : ∀ i, i < zs.length → W.cell? (a.add i) = some (.int k (zs.getD i 0))) : Rd (old W) (some a) ((zs.take len).map (Value.int k)) := rd_old fun i v hv => by
  have hi : i < len := by
    have := (List.getElem?_eq_some_iff.1 hv).1
    simp at this; omega
  have hz : i < zs.length := by omega
  rw [List.getElem?_map, List.getElem?_take_of_lt hi] at hv
  simp [hz] at hv
  rw [h i hz, ← hv]; simp [List.getD, hz]
set_option maxRecDepth 20000 in
theorem step_cell {H : Type} {enc : TypeId × Value → H} {W : World} {spare : Nat → Bool} {held : Bool} {fuel : Nat} {cs : List Value} {x : DataW H × List MemPlace}
    (h : DataW.trod enc Try.prog W 0 spare held fuel 76 cs = some x) : ∃ t : StepC, cs = t.cells ∧ t.v < 18446744073709551616 := by
  obtain ⟨xs, n, _, _, hl, hlen, hf⟩ := DataW.trod_struct Try.underlying76 h
  have hc : Try.prog.cellsOf 76 = 7 := by kernel_rfl
  have hc3 : Try.prog.cellsOf 3 = 1 := by kernel_rfl
  have hc5 : Try.prog.cellsOf 53 = 1 := by kernel_rfl
  rw [hc] at hl
  match cs, hl with
  | [c0, c1, c2, c3, c4, c5, c6], _ =>
    have f0 := hf 0 _ rfl
    have f1 := hf 1 _ rfl
    have f3 := hf 3 _ rfl
    have hx : xs.length = 7 := hlen
    rw [List.getElem?_eq_getElem (by omega)] at f0 f1 f3
    obtain ⟨k, e0, _, _⟩ := DataW.trod_int Try.underlying3 f0
    obtain ⟨q, e1, _, _⟩ := DataW.trod_int Try.underlying3 f1
    obtain ⟨v, e3, _, w3⟩ := DataW.trod_int Try.underlying53 f3
    simp [hc3] at e0 e1
    simp [hc5] at e3
    subst e0 e1 e3
    have hb : 0 ≤ v ∧ v ≤ 18446744073709551615 := by
      exact bounds_u64 w3
    obtain ⟨m, rfl⟩ := Int.eq_ofNat_of_zero_le hb.1
    exact ⟨⟨k, q, c2, m, c4, c5, c6⟩, rfl, by show m < 18446744073709551616; omega⟩

instance : Inhabited StepC := ⟨⟨0, 0, .bool false, 0, .bool false, .bool false, .bool false⟩⟩
theorem steps_read {H : Type} {enc : TypeId × Value → H} {W : World} {spare : Nat → Bool} {held : Bool} {fuel : Nat} {a : Option Addr} {len cap : Nat} {x : DataW H × List MemPlace}
    (h : DataW.trod enc Try.prog W 0 spare held fuel 36 [.slice a len cap] = some x) : ∃ ss : List StepC, ss.length = len ∧ Rd (old W) a (scs ss) ∧ ∀ t ∈ ss, t.v < 18446744073709551616 := by
  rcases Deep.open_slice Try.underlying36 h with ⟨e, _⟩ | ⟨b, l, c, m, n, D, Pl, e, _, hl, _, hm, _, hx⟩
  · simp at e
    obtain ⟨rfl, rfl, rfl⟩ := e
    exact ⟨[], rfl, .inl rfl, by simp⟩
  · simp at e
    obtain ⟨rfl, rfl, rfl⟩ := e
    have hlm : len ≤ m := by rw [hm]; split <;> omega
    have hc : Try.prog.cellsOf 76 = 7 := by kernel_rfl
    rw [hc] at hx
    obtain ⟨f, hfx⟩ := Deep.choose_lt (α := StepC) (p := fun i t => t.v < 18446744073709551616 ∧ ∀ j v, t.cells[j]? = some v → W.cell? (b.add (i * 7 + j)) = some v) (n := len) (fun i hi => by
      obtain ⟨cs', h1, h2⟩ := hx i (by omega)
      obtain ⟨t, rfl, ht⟩ := step_cell h2
      obtain ⟨_, _, h3⟩ := World.cells?_some h1
      refine ⟨t, ht, fun j v hv => ?_⟩
      have hj : j < 7 := by
        have := (List.getElem?_eq_some_iff.1 hv).1
        simpa [StepC.cells] using this
      have := h3 j hj
      rw [Deep.add_add] at this
      rw [this, hv])
    refine ⟨(List.range len).map f, by simp, rd_old fun i v hv => ?_, fun t ht => ?_⟩
    · have hi : i < len * 7 := by
        have := (List.getElem?_eq_some_iff.1 hv).1
        rwa [scs_length, List.length_map, List.length_range] at this
      have hq : i / 7 < ((List.range len).map f).length := by simp; omega
      have hs := scs_at hq
      have h7 : (((List.range len).map f)[i / 7]).cells[i % 7]? = some v := by
        rw [← hs, List.getElem?_take_of_lt (Nat.mod_lt _ (by decide)), List.getElem?_drop, show i / 7 * 7 + i % 7 = i by omega, hv]
      simp at h7
      have := (hfx (i / 7) (by omega)).2 (i % 7) v h7
      rwa [show i / 7 * 7 + i % 7 = i by omega] at this
    · simp only [List.mem_map, List.mem_range] at ht
      obtain ⟨i, hi, rfl⟩ := ht
      exact (hfx i hi).1

end Go.Vl
