/- What Line tells of any plan. Conditions: none. -/
import Derived.Test.YtimckjnnjakcoaaS8
set_option linter.unusedVariables false
set_option linter.unusedSimpArgs false
namespace Go.Vl
open Go Go.Proofs


def lineT (q0 q1 q2 q3 q4 : Int) : List Nat × Int := if planT q0 = ([q0, q1, q2, q3, q4], 0) then (sbB [q0.toNat, 128, 32768, 32896, (q0.toNat - 32896) / 256, 0], 0) else ([], 100)
theorem lineT_t {q0 q1 q2 q3 q4 : Int} (h : planT q0 = ([q0, q1, q2, q3, q4], 0)) : lineT q0 q1 q2 q3 q4 = (sbB [q0.toNat, 128, 32768, 32896, (q0.toNat - 32896) / 256, 0], 0) := if_pos h
theorem lineT_f {q0 q1 q2 q3 q4 : Int} (h : planT q0 ≠ ([q0, q1, q2, q3, q4], 0)) : lineT q0 q1 q2 q3 q4 = ([], 100) := if_neg h
theorem planT_inv {q0 q1 q2 q3 q4 : Int} (h : planT q0 = ([q0, q1, q2, q3, q4], 0)) : ∃ n : Nat, (36992 ≤ n ∧ n ≤ 4194304 ∧ n % 64 = 0) ∧ q0 = (n : Int) ∧ q1 = ((128 : Nat) : Int) ∧ q2 = ((32768 : Nat) : Int) ∧ q3 = ((32896 : Nat) : Int) ∧ q4 = (((n - 32896) / 256 : Nat) : Int) := by
  unfold planT at h
  split at h
  · rename_i hc
    unfold planL at h
    simp only [Prod.mk.injEq, List.cons.injEq, and_true, true_and] at h
    refine ⟨q0.toNat, ?_, ?_, ?_, ?_, ?_, ?_⟩ <;> omega
  · simp at h


theorem Line_u {A : SP} {q0 q1 q2 q3 q4 : Int} : Fn Try.prog 20 #[.agg (ints [q0, q1, q2, q3, q4]).toArray] A (fun r B => ∃ a c, r = .tuple #[.slice a (lineT q0 q1 q2 q3 q4).1.length c, .int .i64 (lineT q0 q1 q2 q3 q4).2] ∧ (lineT q0 q1 q2 q3 q4).1.length ≤ c ∧ B = A * Sl 1 (.slice a (lineT q0 q1 q2 q3 q4).1.length c) (lineT q0 q1 q2 q3 q4).1.length (bys (lineT q0 q1 q2 q3 q4).1)) := by
  by_cases h : planT q0 = ([q0, q1, q2, q3, q4], 0)
  · rw [lineT_t h]
    obtain ⟨n, hn, rfl, rfl, rfl, rfl, rfl⟩ := planT_inv h
    rw [Int.toNat_natCast, sbB_len rfl]
    exact Line_ok hn
  · rw [lineT_f h]
    intro g w hs
    refine (Line_no h g w hs).mono ?_
    rintro e w' ⟨v, B, rfl, ⟨rfl, rfl⟩, hB⟩
    exact ⟨_, _, rfl, ⟨none, 0, rfl, Nat.le_refl 0, rfl⟩, sl_nil hB⟩


theorem LineR_u {A : SP} {q0 q1 q2 q3 q4 : Int} : Fn Try.prog 21 #[.agg (ints [q0, q1, q2, q3, q4]).toArray] A (fun r B => ∃ a c, r = .tuple #[.slice a (lineT q0 q1 q2 q3 q4).1.length c, .int .i64 (lineT q0 q1 q2 q3 q4).2] ∧ (lineT q0 q1 q2 q3 q4).1.length ≤ c ∧ B = A * Sl 1 (.slice a (lineT q0 q1 q2 q3 q4).1.length c) (lineT q0 q1 q2 q3 q4).1.length (bys (lineT q0 q1 q2 q3 q4).1)) := by
  by_cases h : planT q0 = ([q0, q1, q2, q3, q4], 0)
  · rw [lineT_t h]
    obtain ⟨n, hn, rfl, rfl, rfl, rfl, rfl⟩ := planT_inv h
    rw [Int.toNat_natCast, sbB_len rfl]
    exact LineR_ok hn
  · rw [lineT_f h]
    intro g w hs
    refine (LineR_no h g w hs).mono ?_
    rintro e w' ⟨v, B, rfl, ⟨rfl, rfl⟩, hB⟩
    exact ⟨_, _, rfl, ⟨none, 0, rfl, Nat.le_refl 0, rfl⟩, sl_nil hB⟩

end Go.Vl
