/- vellumlaw10: SuperPlans of arguments. Conditions: none. -/
import Derived.Test.YtimckjnnjakcoaaT1
import Derived.Test.YtimckjnnjakcoaaRr
set_option linter.unusedVariables false
set_option linter.unusedSimpArgs false
namespace Go.Vl
open Go Go.Proofs


theorem five_of {α : Type} : ∀ {l : List α}, l.length = 5 → ∃ a b c d e, l = [a, b, c, d, e]
  | [a, b, c, d, e], _ => ⟨a, b, c, d, e, rfl⟩
def PSup (cs : List Value) (x : Int × Int × Int × Int × Int) : Prop := cs = ints [x.1, x.2.1, x.2.2.1, x.2.2.2.1, x.2.2.2.2]
theorem rdb_super (W : World) : Rdb Try.prog W 23 PSup := fun H enc sp hd fu cs d pl h hw => by
  obtain ⟨hl, hf⟩ := rdb_fields Try.underlying23 h hw
  have hc : Try.prog.cellsOf 23 = 5 := by kernel_rfl
  have hci : Try.prog.cellsOf 3 = 1 := by kernel_rfl
  rw [hc] at hl
  obtain ⟨s0, e0, _⟩ := hf 0 _ rfl (rdb_int Try.underlying3)
  obtain ⟨s1, e1, _⟩ := hf 1 _ rfl (rdb_int Try.underlying3)
  obtain ⟨s2, e2, _⟩ := hf 2 _ rfl (rdb_int Try.underlying3)
  obtain ⟨s3, e3, _⟩ := hf 3 _ rfl (rdb_int Try.underlying3)
  obtain ⟨s4, e4, _⟩ := hf 4 _ rfl (rdb_int Try.underlying3)
  obtain ⟨c0, c1, c2, c3, c4, rfl⟩ := five_of hl
  simp [hci] at e0 e1 e2 e3 e4
  subst e0 e1 e2 e3 e4
  exact ⟨(s0, s1, s2, s3, s4), rfl⟩
theorem SuperPlans_L (F : SP) (v : Value) (n : Int) (hn : PInt .i64 [v] n) (cs : Array Value) (x : Int × Int × Int × Int × Int) (h : PSup cs.toList x) : Fn Try.prog 3 #[v, .agg cs] F (fun r B => r = .bool true ∧ B = F) := by
  obtain ⟨e, _⟩ := hn
  simp only [List.cons.injEq, and_true] at e
  subst e
  obtain ⟨s0, s1, s2, s3, s4⟩ := x
  have ecs : cs = (ints [s0, s1, s2, s3, s4]).toArray := by
    have h : cs.toList = _ := h
    rw [← h]
  rw [ecs]
  exact (SuperPlansW_f F n s0 s1 s2 s3 s4).mono fun _ _ h => ⟨h.1, h.2.symm⟩

end Go.Vl
