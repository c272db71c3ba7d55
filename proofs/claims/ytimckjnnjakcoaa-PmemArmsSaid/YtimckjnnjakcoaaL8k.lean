/- vellumlaw08: PmemLasts, all told. Conditions: none. -/
import Derived.Test.YtimckjnnjakcoaaL8h
import Derived.Test.YtimckjnnjakcoaaL8j
set_option linter.unusedVariables false
set_option linter.unusedSimpArgs false
namespace Go.Vl
open Go Go.Proofs


theorem PmemLasts_f (F : SP) (lines : Int) (a a2 : Option Addr) (c c2 : Nat) (ss : List StepC) (keep : List Int) (hr : Rd F a (scs ss)) (hr2 : Rd F a2 (ints keep)) (hss : ∀ t ∈ ss, t.v < 18446744073709551616) (hl : ss.length + 16 ≤ 2199023255552) (hkl : keep.length ≤ 17592186044416) (hkb : ∀ k ∈ keep, k ≤ 9223372036854775807) :
    Fn Try.prog 4 #[.int .i64 lines, .slice a ss.length c, .slice a2 keep.length c2] F (fun r B => r = .bool true ∧ B = F) := by
  have hwi := wi_lt (p := lines) (show 0 < 4 by omega)
  cases hlow : lowB keep with
  | true => exact PmemLastsBad_f F lines a a2 c c2 _ ss keep _ rfl rfl hr hr2 hss hl hkl hkb hlow
  | false =>
    have hW0 := begS_wf (n := 1 + wi lines 4) (r := 1 + ss.length) (by omega) (by omega) (by omega)
    obtain ⟨h1, _⟩ := playL_ok ss hW0 (begS_live _)
    obtain ⟨h2, h3⟩ := inv_play ss hW0 (begS_live _) (newS_wf (by omega) (by omega)) (inv_begS _) hss
    exact PmemLastsGood_f F lines a a2 c c2 _ ss keep _ rfl rfl hr hr2 hss hl hkl hkb _ hlow rfl (lasts_of h1 h3 h2 keep)

end Go.Vl
