/- Words of lines, contents behind a store, in plain Lean. Conditions: none. -/
import Derived.Test.YtimckjnnjakcoaaL8b
set_option linter.unusedVariables false
set_option linter.unusedSimpArgs false
namespace Go.Vl
open Go Go.Proofs


theorem lb_word {s : List Nat} {r : Nat} (h : r < s.length) (t : List Nat) : (((lb s ++ t).drop (8 * r)).take 8) = le 8 s[r] := by
  induction s generalizing r with
  | nil => simp at h
  | cons x s ih =>
    cases r with
    | zero =>
      show (((le 8 x ++ lb s) ++ t).drop 0).take 8 = le 8 x
      rw [List.drop_zero, List.append_assoc, List.take_append_of_le_length (by rw [le_length]; omega), List.take_of_length_le (by rw [le_length]; omega)]
    | succ r =>
      have e : 8 * (r + 1) = (le 8 x).length + 8 * r := by rw [le_length]; omega
      show (((le 8 x ++ lb s) ++ t).drop _).take 8 = _
      rw [e, List.append_assoc, ← List.drop_drop, List.drop_left]
      exact ih (by simpa using h)
theorem seenL_app (l : LineS) (σ : List Nat) : seenL { l with st := l.st ++ [σ] } = σ := by
  unfold seenL; simp [List.getD]
theorem wfD_ops {s : DevS} (h : WfD s) (o : Int) : WfD { s with ops := o } := ⟨h.pos, h.top, h.line, h.arms, h.after, h.keeps⟩

end Go.Vl
