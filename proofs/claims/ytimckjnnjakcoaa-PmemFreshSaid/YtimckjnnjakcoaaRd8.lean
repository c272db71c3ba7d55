/- vellumlaw08: what steps read. Conditions: none. -/
import Derived.Test.YtimckjnnjakcoaaRr
import Derived.Test.YtimckjnnjakcoaaL8e
set_option linter.unusedVariables false
set_option linter.unusedSimpArgs false
namespace Go.Vl
open Go Go.Proofs


theorem flatF {α : Type} {f : α → List Value} : ∀ {Cs : List (List Value)} {xs : List α} (_ : Cs.length = xs.length) (_ : ∀ i (h : i < xs.length) (h' : i < Cs.length), Cs[i] = f xs[i]), Cs.flatten = xs.flatMap f
  | [], [], _, _ => rfl
  | c :: Cs, x :: xs, hl, h => by
    have h0 := h 0 (by simp) (by simp)
    simp only [List.getElem_cons_zero] at h0
    rw [List.flatten_cons, h0, flatF (f := f) (Cs := Cs) (xs := xs) (by simpa using hl) (fun i hi hi' => h (i + 1) (by simpa using hi) (by simpa using hi')), List.flatMap_cons]
theorem u64_wf {x : Int} (h : (Lit.int .u64 x).wf = true) : ∃ m : Nat, x = m ∧ m < 18446744073709551616 := by
  have hb := Go.bounds_u64 h
  obtain ⟨m, rfl⟩ := Int.eq_ofNat_of_zero_le hb.1
  exact ⟨m, rfl, by omega⟩
set_option maxRecDepth 20000 in
theorem rdb_step (W : World) : Rdb Try.prog W 76 (fun cs (t : StepC) => cs = t.cells ∧ t.v < 18446744073709551616) := fun H enc sp hd fu cs d pl h hw => by
  obtain ⟨hl, hf⟩ := rdb_fields Try.underlying76 h hw
  have hc : Try.prog.cellsOf 76 = 7 := by kernel_rfl
  have hci : Try.prog.cellsOf 3 = 1 := by kernel_rfl
  have hcu : Try.prog.cellsOf 53 = 1 := by kernel_rfl
  rw [hc] at hl
  obtain ⟨k, e0, _⟩ := hf 0 _ rfl (rdb_int Try.underlying3)
  obtain ⟨q, e1, _⟩ := hf 1 _ rfl (rdb_int Try.underlying3)
  obtain ⟨v, e3, w3⟩ := hf 3 _ rfl (rdb_int Try.underlying53)
  obtain ⟨m, rfl, hm⟩ := u64_wf w3
  match cs, hl with
  | [c0, c1, c2, c3, c4, c5, c6], _ =>
    simp [hci] at e0 e1
    simp [hcu] at e3
    subst e0 e1 e3
    exact ⟨⟨k, q, c2, m, c4, c5, c6⟩, rfl, hm⟩
def PSteps (A : SP) (cs : List Value) (ss : List StepC) : Prop := ∃ a cap, cs = [.slice a ss.length cap] ∧ ss.length ≤ cap ∧ ss.length ≤ 1353245080300 ∧ Rs A a (scs ss) ∧ ∀ t ∈ ss, t.v < 18446744073709551616
theorem rdb_steps (W : World) : Rdb Try.prog W 36 (PSteps (old W)) :=
  (rdb_slice (k := 7) (b := 104) Try.underlying36 (by kernel_rfl) (by kernel_rfl) (by decide) (rdb_step W)).mono fun cs ss ⟨a, cap, Cs, e1, hc, hs, hl, hx, hr⟩ => by
    refine ⟨ss, a, cap, e1, hc, by unfold reachBytes at hs; omega, ?_, fun t ht => ?_⟩
    · rw [show scs ss = Cs.flatten from (flatF hl (fun i h h' => (hx i h h').2.1)).symm]; exact hr
    · obtain ⟨i, hi, rfl⟩ := List.mem_iff_getElem.1 ht
      exact (hx i hi (by omega)).2.2
theorem rdb_intsA (W : World) : Rdb Try.prog W 37 (PInts (old W)) := rdb_ints Try.underlying37 Try.underlying3 (by kernel_rfl) (by kernel_rfl)

end Go.Vl
