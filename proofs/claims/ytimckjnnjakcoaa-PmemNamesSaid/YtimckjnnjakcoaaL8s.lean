/- What an argument of bytes reads. Conditions: none. -/
import Derived.Test.YtimckjnnjakcoaaL8r
set_option linter.unusedVariables false
set_option linter.unusedSimpArgs false
namespace Go.Vl
open Go Go.Proofs


theorem bytes_read {A : SP} {a : Option Addr} {zs : List Int} {len : Nat} (hl : zs.length = len) (h : Rd A a (zs.map (Value.int .u8))) (hw : ∀ n ∈ zs, (Lit.int .u8 n).wf = true) :
    ∃ xs : List Nat, xs.length = len ∧ Rd A a (bys xs) ∧ ∀ n ∈ xs, n < 256 := by
  have hb : ∀ n ∈ zs, 0 ≤ n ∧ n ≤ 255 := fun n hn => bounds_u8 (hw n hn)
  refine ⟨zs.map Int.toNat, by simpa using hl, ?_, fun n hn => ?_⟩
  · have e : bys (zs.map Int.toNat) = zs.map (Value.int .u8) := by
      simp only [bys, List.map_map]
      refine List.map_congr_left fun n hn => ?_
      have := hb n hn
      simp only [Function.comp, b8]
      congr 1; omega
    rw [e]; exact h
  · obtain ⟨m, hm, rfl⟩ := List.mem_map.1 hn
    have := hb m hm
    omega

end Go.Vl
