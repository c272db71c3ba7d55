/- vellumlaw08: PmemKeeps, all told. Conditions: none. -/
import Derived.Test.YtimckjnnjakcoaaL8m
set_option linter.unusedVariables false
set_option linter.unusedSimpArgs false
namespace Go.Vl
open Go Go.Proofs


theorem PmemKeeps_f (F : SP) (lines : Int) (a a2 : Option Addr) (c c2 : Nat) (ss : List StepC) (keep : List Int) (hr : Rd F a (scs ss)) (hr2 : Rd F a2 (ints keep)) (hss : ∀ t ∈ ss, t.v < 18446744073709551616) (hl : ss.length + 16 ≤ 2199023255552) (hkl : keep.length ≤ 17592186044416) (hkb : ∀ k ∈ keep, k ≤ 9223372036854775807) :
    Fn Try.prog 5 #[.int .i64 lines, .slice a ss.length c, .slice a2 keep.length c2] F (fun r B => r = .bool true ∧ B = F) := by
  have hwi := wi_lt (p := lines) (show 0 < 4 by omega)
  have hW0 := begS_wf (n := 1 + wi lines 4) (r := 1 + ss.length) (by omega) (by omega) (by omega)
  obtain ⟨_, h3⟩ := inv_play ss hW0 (begS_live _) (newS_wf (by omega) (by omega)) (inv_begS _) hss
  cases hlow : lowB keep with
  | true => exact PmemKeepsW_f F lines a a2 none c c2 0 _ ss keep [] _ rfl rfl h3 hr hr2 hss hl hkl hkb (.inl ⟨hlow, rfl, rfl, rfl⟩) rd_nil (by simp) (by simp)
  | false => exact PmemKeepsW_f F lines a a2 a2 c c2 c2 _ ss keep keep _ rfl rfl h3 hr hr2 hss hl hkl hkb (.inr ⟨hlow, rfl, rfl, rfl⟩) hr2 hkl (fun k hm => ⟨by
      rcases Int.lt_or_le k 0 with h1 | h1
      · exfalso; unfold lowB at hlow; rw [List.any_eq_false] at hlow; exact hlow k hm (by simpa using h1)
      · exact h1, hkb k hm⟩)

end Go.Vl
