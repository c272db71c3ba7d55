/- What the row rests on, part 3: a calculus of assertions, walks of functions over it, and plain laws. Conditions: none. -/
import Derived.Deep.QuietTactic
import Derived.BigQuiet
import Derived.WalkKit
import Derived.Test.YtimckjnnjakcoaaProg
import Derived.OrdersHeld
import Derived.Laws.BytesArg
import Derived.RangeFuncRecord
import Derived.TacticsIn
import Derived.Deep.Slices
import Derived.OpenShut
import Derived.ChangeArms
import Derived.SizedLaws
import Derived.ChangeSame
import Derived.Test.YtimckjnnjakcoaaRows
import Derived.Test.YtimckjnnjakcoaaMg2
set_option linter.unusedVariables false
set_option linter.unusedSimpArgs false
namespace Go.Vl
open Go Go.Proofs
def lineT (q0 q1 q2 q3 q4 : Int) : List Nat × Int := if planT q0 = ([q0, q1, q2, q3, q4], 0) then (sbB [q0.toNat, 128, 32768, 32896, (q0.toNat - 32896) / 256, 0], 0) else ([], 100)
theorem lineT_t {q0 q1 q2 q3 q4 : Int} (h : planT q0 = ([q0, q1, q2, q3, q4], 0)) : lineT q0 q1 q2 q3 q4 = (sbB [q0.toNat, 128, 32768, 32896, (q0.toNat - 32896) / 256, 0], 0) := if_pos h
theorem lineT_f {q0 q1 q2 q3 q4 : Int} (h : planT q0 ≠ ([q0, q1, q2, q3, q4], 0)) : lineT q0 q1 q2 q3 q4 = ([], 100) := if_neg h
theorem planT_inv {q0 q1 q2 q3 q4 : Int} (h : planT q0 = ([q0, q1, q2, q3, q4], 0)) : ∃ n : Nat, (36992 ≤ n ∧ n ≤ 4194304 ∧ n % 64 = 0) ∧ q0 = (n : Int) ∧ q1 = ((128 : Nat) : Int) ∧ q2 = ((32768 : Nat) : Int) ∧ q3 = ((32896 : Nat) : Int) ∧ q4 = (((n - 32896) / 256 : Nat) : Int) := by
  unfold planT at h
  split at h
  · rename_i hc
    unfold planL at h
    simp only [Prod.mk.injEq, List.cons.injEq, and_true, true_and] at h
    refine ⟨q0.toNat, ?_, ?_, ?_, ?_, ?_, ?_⟩ <;> omega
  · simp at h
theorem LineR_u {A : SP} {q0 q1 q2 q3 q4 : Int} : Fn Try.prog 21 #[.agg (ints [q0, q1, q2, q3, q4]).toArray] A (fun r B => ∃ a c, r = .tuple #[.slice a (lineT q0 q1 q2 q3 q4).1.length c, .int .i64 (lineT q0 q1 q2 q3 q4).2] ∧ (lineT q0 q1 q2 q3 q4).1.length ≤ c ∧ B = A * Sl 1 (.slice a (lineT q0 q1 q2 q3 q4).1.length c) (lineT q0 q1 q2 q3 q4).1.length (bys (lineT q0 q1 q2 q3 q4).1)) := by
  by_cases h : planT q0 = ([q0, q1, q2, q3, q4], 0)
  · rw [lineT_t h]
    obtain ⟨n, hn, rfl, rfl, rfl, rfl, rfl⟩ := planT_inv h
    rw [Int.toNat_natCast, sbB_len rfl]
    exact LineR_ok hn
  · rw [lineT_f h]
    intro g w hs
    refine (LineR_no h g w hs).mono ?_
    rintro e w' ⟨v, B, rfl, ⟨rfl, rfl⟩, hB⟩
    exact ⟨_, _, rfl, ⟨none, 0, rfl, Nat.le_refl 0, rfl⟩, sl_nil hB⟩
end Go.Vl

set_option linter.unusedVariables false
set_option linter.unusedSimpArgs false
namespace Go.Vl
open Go Go.Proofs
/-- A device of which some lines are laid. -/
def fromP (n : Nat) (xs : List Nat) (i : Nat) : DevS := { newS n with ls := pm (fun j _ => lineF xs j) i (newS n).ls }
theorem fromP_zero (n : Nat) (xs : List Nat) : fromP n xs 0 = newS n := by unfold fromP; rw [pm_zero]
theorem fromP_all (n : Nat) (xs : List Nat) : fromP n xs n = fromS n xs := by
  have h : (newS n).ls.length = n := by simp [newS]
  have := pm_all (fun j _ => lineF xs j) (newS n).ls
  rw [h] at this
  unfold fromP fromS; rw [this]
theorem fromP_len (n : Nat) (xs : List Nat) (i : Nat) : (fromP n xs i).ls.length = n := by simp [fromP, pm_length, newS]
theorem fromP_at {n : Nat} (xs : List Nat) {i : Nat} (h : i < n) : (fromP n xs i).ls[i]'(by rw [fromP_len]; exact h) = zline := by
  simp only [fromP]
  rw [pm_at _ (by simpa [newS] using h)]; simp [newS]
theorem fromP_set {n : Nat} (xs : List Nat) {i : Nat} (h : i < n) : { fromP n xs i with ls := (fromP n xs i).ls.set i (lineF xs i) } = fromP n xs (i + 1) := by
  have hl : i < (newS n).ls.length := by simpa [newS] using h
  have := pm_set (fun j _ => lineF xs j) hl
  unfold fromP; simp only [this]
theorem fromP_wf {n : Nat} {xs : List Nat} {i : Nat} (h : 0 < n) (h2 : n ≤ 65536) (hb : ∀ x ∈ xs, x < 256) : WfD (fromP n xs i) :=
  ⟨by rw [fromP_len]; exact h, by rw [fromP_len]; exact h2, fun l hl => by
    obtain ⟨j, hj, rfl⟩ := List.mem_iff_getElem.1 hl
    simp only [fromP, pm, List.getElem_mapIdx]
    split
    · exact lineF_wf hb _
    · simp only [newS, List.getElem_replicate]; exact zline_wf, by simp [fromP, newS], by simp [fromP, newS], by simp [fromP, newS]⟩
def lineW (xs : List Nat) (i k : Nat) : List Nat := pm (fun k _ => wordF xs i k) k (List.replicate 8 0)
theorem lineW_zero (xs : List Nat) (i : Nat) : lineW xs i 0 = List.replicate 8 0 := pm_zero _ _
theorem lineW_set (xs : List Nat) (i : Nat) {k : Nat} (h : k < 8) : (lineW xs i k).set k (wordF xs i k) = lineW xs i (k + 1) := by
  have := pm_set (fun k _ => wordF xs i k) (l := List.replicate 8 0) (k := k) (by simpa using h)
  exact this
theorem lineW_all (xs : List Nat) (i : Nat) : (⟨[lineW xs i 8], -1⟩ : LineS) = lineF xs i := by
  have := pm_all (fun k _ => wordF xs i k) (List.replicate 8 0)
  rw [List.length_replicate] at this
  unfold lineF lineW; rw [this]
theorem From_c {F : SP} {a : Option Addr} {c m : Nat} {xs : List Nat} (n : Nat) (hr : Rs F a (bys xs) := by repeat (first | assumption | with_reducible exact rs_sl | with_reducible exact rs_pt0 | exact rs_none | apply Rs.left)) (hx : xs.length = m := by first | assumption | rfl) (hm : m = n * 64 := by omega) (hb : ∀ x ∈ xs, x < 256 := by assumption) (hn : 0 < n := by omega) (hn2 : n ≤ 65536 := by omega) :
    Fn Try.prog 42 #[.slice a m c] (F) (fun r B => ∃ d, r = .tuple #[.pointer (some ⟨d, 0, none⟩), .int .i64 0] ∧ B = F * Dev d (fromS n xs)) := by
  refine fn_enterW (args := [.slice a m c]) Try.func42 rfl Try.ntmps42 (by simp) ?_
  refine tc_seq ?_
  refine tc_reg ?_
  refine tl_v rfl (o_assign (by conv => lhs; whnf)) ?_
  refine tl_v rfl (o_assign (by conv => lhs; whnf)) ?_
  refine tl_nil ?_
  refine q_then_n ?_
  refine tc_seq ?_
  refine tc_reg ?_
  refine tl_v rfl (o_move (by conv => lhs; whnf)) ?_
  refine tl_v rfl (o_len Try.underlying28 rfl) ?_
  refine tl_c rfl (o_call bd51 rfl (New_c (n := n))) ?_
  rintro _ _ ⟨d12, rfl, rfl⟩
  refine tl_v rfl (o_move (by conv => lhs; whnf)) ?_
  refine tl_v rfl (o_extract rfl rfl) ?_
  refine tl_v rfl (o_extract rfl rfl) ?_
  refine tl_v rfl (o_assign (by conv => lhs; whnf)) ?_
  refine tl_v rfl (o_assign (by conv => lhs; whnf)) ?_
  refine tl_nil ?_
  refine q_then_n ?_
  refine tc_seq ?_
  refine tc_seq ?_
  refine tc_reg ?_
  refine tl_v rfl (o_move (by conv => lhs; whnf)) ?_
  refine tl_v rfl (o_nei rfl rfl) ?_
  refine tl_nil ?_
  refine q_then_n ?_
  refine tc_cond rfl (fun h => ?_) (fun h => ?_)
  · (exfalso; first | (revert h; simp; done) | (simp at h; done) | (revert h; simp; omega) | (simp at h; omega) | omega)
  · try simp only [decide_eq_true_eq, decide_eq_false_iff_not, Bool.not_eq_true', Bool.not_eq_false', Option.isNone_some, Option.isNone_none, Bool.not_true, Bool.not_false] at h
    refine tc_skip ?_
    refine q_then_n ?_
    refine tc_seq ?_
    refine tc_seq ?_
    refine tc_reg ?_
    refine tl_v rfl (o_move (by conv => lhs; whnf)) ?_
    refine tl_v rfl (o_nilCheck rfl) ?_
    refine tl_v rfl (o_fieldAddr (o := 0) Try.underlying97 rfl rfl sz95 rfl) ?_
    rw [← fromP_zero n xs]
    refine tl_dev fun hw bl svs av kvs hsv hkv => ?_
    refine tl_v rfl (o_load p95 rfl devC_d rfl) ?_
    refine tl_v rfl (o_len Try.underlying95 rfl) ?_
    rw [fromP_len]
    refine tl_pre (dev_back hw hsv hkv) ?_
    refine tl_v rfl (o_move (by conv => lhs; whnf)) ?_
    refine tl_nil ?_
    refine q_then_n ?_
    refine tc_block ?_
    refine tc_loop (fun kk ρ BB => ∃ (i : Nat), (i ≤ n) ∧ kk = n - i ∧ ρ 23 = .int .i64 (i : Nat) ∧ ρ 0 = .slice a m c ∧ ρ 4 = .pointer (some ⟨d12, 0, none⟩) ∧ ρ 22 = .int .i64 (n : Nat) ∧ BB = F * Dev d12 (fromP n xs i)) (m := n - (0)) ?_ ?_
    · exact ⟨0, by omega, rfl, rfl, rfl, rfl, rfl, rfl⟩
    · intro k ρ B hI
      obtain ⟨i, hp0, hkk1, hE23, hE0, hE4, hE22, rfl⟩ := hI
      refine tc_env (d := 23) hE23 ?_
      refine tc_env (d := 0) hE0 ?_
      refine tc_env (d := 4) hE4 ?_
      refine tc_env (d := 22) hE22 ?_
      clear hE23 hE0 hE4 hE22
      refine tc_seq ?_
      refine tc_reg ?_
      refine tl_v rfl (o_lss rfl rfl) ?_
      refine tl_nil ?_
      refine q_then_n ?_
      refine tc_seq ?_
      refine tc_cond rfl (fun h => ?_) (fun h => ?_)
      · try simp only [decide_eq_true_eq, decide_eq_false_iff_not, Bool.not_eq_true', Bool.not_eq_false', Option.isNone_some, Option.isNone_none, Bool.not_true, Bool.not_false] at h
        refine tc_skip ?_
        refine q_then_n ?_
        refine tc_seq ?_
        refine tc_block ?_
        refine tc_seq ?_
        refine tc_reg ?_
        refine tl_v rfl (o_move (by conv => lhs; whnf)) ?_
        refine tl_v rfl (o_assign (by conv => lhs; whnf)) ?_
        refine tl_nil ?_
        refine q_then_n ?_
        refine tc_seq ?_
        refine tc_reg ?_
        refine tl_v rfl (o_move (by conv => lhs; whnf)) ?_
        refine tl_v rfl (o_nilCheck rfl) ?_
        refine tl_v rfl (o_fieldAddr (o := 0) Try.underlying97 rfl rfl sz95 rfl) ?_
        refine tl_dev fun hw bl svs av kvs hsv hkv => ?_
        have hi : i < (fromP n xs i).ls.length := by rw [fromP_len]; omega
        obtain ⟨R, hf1, hf2⟩ := devC_focus (d := d12) (bl := bl) (kvs := kvs) (av := av) (s := fromP n xs i) hsv hi
        refine tl_eq (hf1 F) ?_
        rw [fromP_at xs (show i < n by omega)]
        refine tl_have (fun _ _ h => sl_have' rfl h) fun ⟨a', c', hvv, hn', hl', hrd⟩ => ?_
        rw [hvv] at hrd ⊢
        obtain ⟨b, o, rfl, _⟩ := hrd.some (by decide)
        have hsl : svs.length = n := by rw [hsv, fromP_len]
        have hcell : (lcs svs (fromP n xs i).ls)[i * 2 + 0]? = some (.slice (some ⟨b, o, none⟩) 1 c') := by rw [Nat.add_zero, lcs_sv hsv (by omega), hvv]; rfl
        rw [show (fromP n xs i).ls.length = n from fromP_len n xs i]
        refine tl_v rfl (by first | exact o_load p95 rfl (by repeat (first | with_reducible exact has_here | with_reducible exact has_pt | apply has_left)) rfl | exact o_loadC p95 rfl (by assumption)) ?_
        refine tl_v rfl (o_move (by conv => lhs; whnf)) ?_
        refine tl_v rfl (o_indexAddrN Try.underlying95 sz150 rfl rfl (by omega)) ?_
        refine tl_v rfl (o_fieldAddr (o := 0) Try.underlying150 rfl rfl sz148 rfl) ?_
        refine tl_v rfl (o_loadC p148 rfl (cell_of_has (by repeat (first | with_reducible exact has_here | with_reducible exact has_pt | apply has_left)) (by rw [Nat.zero_add]; exact hcell))) ?_
        refine tl_v rfl (o_indexAddrN (j := 0) Try.underlying148 sz147 rfl rfl (by decide)) ?_
        refine tl_v rfl (o_assign (by conv => lhs; whnf)) ?_
        refine tl_nil ?_
        refine q_then_n ?_
        refine tc_seq ?_
        refine tc_reg ?_
        refine tl_v rfl (o_move (by conv => lhs; whnf)) ?_
        refine tl_nil ?_
        refine q_then_n ?_
        refine tc_block ?_
        refine tc_loop (fun kk ρ BB => ∃ (k : Nat), (k ≤ 8) ∧ kk = 8 - k ∧ ρ 35 = .int .i64 (k : Nat) ∧ ρ 0 = .slice a m c ∧ ρ 4 = .pointer (some ⟨d12, 0, none⟩) ∧ ρ 6 = .int .i64 (i : Nat) ∧ ρ 7 = .pointer (some ⟨b, o, none⟩) ∧ ρ 22 = .int .i64 (n : Nat) ∧ ρ 23 = .int .i64 (i : Nat) ∧ BB = F * R * pt bl (cl (lcs svs (fromP n xs i).ls) 150) * pt d12 (cl (dcs bl n (fromP n xs i) av) 97) * Sl 8 (.slice (some ⟨b, o, none⟩) 1 c') 1 (wds (lineW xs i k))) (m := 8 - (0)) ?_ ?_
        · exact ⟨0, by omega, rfl, rfl, rfl, rfl, rfl, rfl, rfl, rfl, by rw [lineW_zero]; rfl⟩
        · intro k ρ B hI
          obtain ⟨k, hp0, hkk2, hE35, hE0, hE4, hE6, hE7, hE22, hE23, rfl⟩ := hI
          refine tc_env (d := 35) hE35 ?_
          refine tc_env (d := 0) hE0 ?_
          refine tc_env (d := 4) hE4 ?_
          refine tc_env (d := 6) hE6 ?_
          refine tc_env (d := 7) hE7 ?_
          refine tc_env (d := 22) hE22 ?_
          refine tc_env (d := 23) hE23 ?_
          clear hE35 hE0 hE4 hE6 hE7 hE22 hE23
          refine tc_seq ?_
          refine tc_reg ?_
          refine tl_v rfl (o_lss rfl rfl) ?_
          refine tl_nil ?_
          refine q_then_n ?_
          refine tc_seq ?_
          refine tc_cond rfl (fun h => ?_) (fun h => ?_)
          · try simp only [decide_eq_true_eq, decide_eq_false_iff_not, Bool.not_eq_true', Bool.not_eq_false', Option.isNone_some, Option.isNone_none, Bool.not_true, Bool.not_false] at h
            refine tc_skip ?_
            refine q_then_n ?_
            refine tc_seq ?_
            refine tc_block ?_
            refine tc_seq ?_
            refine tc_reg ?_
            refine tl_v rfl (o_move (by conv => lhs; whnf)) ?_
            refine tl_v rfl (o_assign (by conv => lhs; whnf)) ?_
            refine tl_nil ?_
            refine q_then_n ?_
            refine tc_regh (S := F * R * pt bl (cl (lcs svs (fromP n xs i).ls) 150) * pt d12 (cl (dcs bl n (fromP n xs i) av) 97)) mo (by repeat (first | with_reducible exact dr_refl | apply dr_keep | apply dr_drop)) ?_
            show TH _ _ _ _ _ 15 #[false, false, false, false, false, false, false, false, false, false, false, false, false, false, false] _ _
            refine th_take (i := 0) (listed' := #[true, false, false, false, false, false, false, false, false, false, false, false, false, false, false]) rfl (by kernel_rfl) (by kernel_rfl) (by kernel_rfl) rfl rfl (o_move (by conv => lhs; whnf)) ?_
            refine th_take (i := 1) (listed' := #[true, true, false, false, false, false, false, false, false, false, false, false, false, false, false]) rfl (by kernel_rfl) (by kernel_rfl) (by kernel_rfl) rfl rfl (o_move (by conv => lhs; whnf)) ?_
            refine th_take (i := 2) (listed' := #[true, true, true, false, false, false, false, false, false, false, false, false, false, false, false]) rfl (by kernel_rfl) (by kernel_rfl) (by kernel_rfl) rfl rfl (o_move (by conv => lhs; whnf)) ?_
            refine th_take (i := 3) (listed' := #[true, true, true, true, false, false, false, false, false, false, false, false, false, false, false]) rfl (by kernel_rfl) (by kernel_rfl) (by kernel_rfl) rfl rfl (o_move (by conv => lhs; whnf)) ?_
            refine th_take (i := 4) (listed' := #[true, true, true, true, true, false, false, false, false, false, false, false, false, false, false]) rfl (by kernel_rfl) (by kernel_rfl) (by kernel_rfl) rfl rfl (by first | exact o_mulI rfl rfl (by omega) | exact o_mul rfl rfl) ?_
            refine th_take (i := 5) (listed' := #[true, true, true, true, true, true, false, false, false, false, false, false, false, false, false]) rfl (by kernel_rfl) (by kernel_rfl) (by kernel_rfl) rfl rfl (o_move (by conv => lhs; whnf)) ?_
            refine th_take (i := 6) (listed' := #[true, true, true, true, true, true, true, false, false, false, false, false, false, false, false]) rfl (by kernel_rfl) (by kernel_rfl) (by kernel_rfl) rfl rfl (by first | exact o_mulI rfl rfl (by omega) | exact o_mul rfl rfl) ?_
            refine th_take (i := 7) (listed' := #[true, true, true, true, true, true, true, true, false, false, false, false, false, false, false]) rfl (by kernel_rfl) (by kernel_rfl) (by kernel_rfl) rfl rfl (by first | exact o_addI rfl rfl (by omega) | exact o_add rfl rfl) ?_
            refine th_env (d := 46) (v := .int .i64 ((i * 64 + k * 8 : Nat) : Int)) (rfl) ?_
            refine th_take (i := 12) (listed' := #[true, true, true, true, true, true, true, true, false, false, false, false, true, false, false]) rfl (by kernel_rfl) (by kernel_rfl) (by kernel_rfl) rfl rfl (o_nilCheck rfl) ?_
            refine th_one (i := 8) (by kernel_rfl) ?_
            refine oh_c (i := 8) (listed' := #[true, true, true, true, true, true, true, true, true, false, false, false, true, false, false]) rfl rfl rfl (o_call bd98 rfl (Take64_c)) ?_
            rintro _ _ ⟨rfl, rfl⟩
            refine ⟨by repeat (first | with_reducible exact dr_refl | apply dr_keep | apply dr_drop), ?_⟩
            refine th_take (i := 9) (listed' := #[true, true, true, true, true, true, true, true, true, true, false, false, true, false, false]) rfl (by kernel_rfl) (by kernel_rfl) (by kernel_rfl) rfl rfl (o_move (by conv => lhs; whnf)) ?_
            refine th_take (i := 10) (listed' := #[true, true, true, true, true, true, true, true, true, true, true, false, true, false, false]) rfl (by kernel_rfl) (by kernel_rfl) (by kernel_rfl) rfl rfl (o_extract rfl rfl) ?_
            refine th_take (i := 11) (listed' := #[true, true, true, true, true, true, true, true, true, true, true, true, true, false, false]) rfl (by kernel_rfl) (by kernel_rfl) (by kernel_rfl) rfl rfl (o_extract rfl rfl) ?_
            refine th_take (i := 13) (listed' := #[true, true, true, true, true, true, true, true, true, true, true, true, true, true, false]) rfl (by kernel_rfl) (by kernel_rfl) (by kernel_rfl) rfl rfl (o_indexAddrAN1 (j := k) Try.underlying147 sz53 rfl rfl (by omega)) ?_
            refine th_one (i := 14) (by kernel_rfl) ?_
            refine oh_u (i := 14) (listed' := #[true, true, true, true, true, true, true, true, true, true, true, true, true, true, true]) rfl rfl rfl (o_storeSlK (i := k) (k := 8) (m := 1) (xs := wds (lineW xs i k)) (ys := wds ((lineW xs i k).set k (wordF xs i k))) sz53 rfl rfl rfl (by omega) (wds_set' _ _ _) (by repeat (first | with_reducible exact foc_here | apply foc_left))) (by repeat (first | with_reducible exact dr_refl | apply dr_keep | apply dr_drop)) ?_
            refine th_done (by kernel_rfl) ?_
            refine q_block_n (q_then_n ?_)
            refine tc_reg ?_
            refine tl_v rfl (by first | exact o_addI rfl rfl (by omega) | exact o_add rfl rfl) ?_
            refine tl_v rfl (o_move (by conv => lhs; whnf)) ?_
            refine tl_nil ?_
            refine q_then_n ?_
            exact ⟨_, by omega, k + 1, by omega, rfl, rfl, rfl, rfl, rfl, rfl, rfl, rfl, by rw [← lineW_set xs i (by omega)]⟩
          · try simp only [decide_eq_true_eq, decide_eq_false_iff_not, Bool.not_eq_true', Bool.not_eq_false', Option.isNone_some, Option.isNone_none, Bool.not_true, Bool.not_false] at h
            refine tc_exit ?_
            refine q_then_e (q_then_e (q_block_x (q_block_n (q_then_n ?_))))
            refine tc_reg ?_
            obtain rfl : k = 8 := by omega
            have hfin := hf2 F (.slice (some ⟨b, o, none⟩) 1 c') (lineF xs i)
            refine tl_eq (A' := F * DevC d12 bl (svs.set i (.slice (some ⟨b, o, none⟩) 1 c')) av kvs { fromP n xs i with ls := (fromP n xs i).ls.set i (lineF xs i) }) ?_ ?_
            · rw [← hfin, ← lineW_all]
              have e1 : lcs (svs.set i (.slice (some ⟨b, o, none⟩) 1 c')) ((fromP n xs i).ls.set i ⟨[lineW xs i 8], -1⟩) = lcs svs (fromP n xs i).ls := by
                rw [← lcs_set_sv (⟨[lineW xs i 8], -1⟩ : LineS) hsv hi (by rw [fromP_at xs (show i < n by omega)]; rfl)]
                have h1 : i * 2 < (lcs svs (fromP n xs i).ls).length := by rw [lcs_length hsv]; omega
                have h2 := List.getElem?_eq_getElem h1
                rw [Nat.add_zero] at hcell
                rw [hcell] at h2
                rw [Option.some.inj h2]
                exact set_getElem h1
              rw [e1, fromP_len]; rfl
            refine tl_pre (dev_back (by rw [fromP_set xs (show i < n by omega)]; exact fromP_wf hn hn2 hb) (by simp [hsv]) hkv) ?_
            rw [fromP_set xs (show i < n by omega)]
            refine tl_v rfl (by first | exact o_addI rfl rfl (by omega) | exact o_add rfl rfl) ?_
            refine tl_v rfl (o_move (by conv => lhs; whnf)) ?_
            refine tl_nil ?_
            refine q_then_n ?_
            exact ⟨_, by omega, i + 1, by omega, rfl, rfl, rfl, rfl, rfl, rfl⟩
      · try simp only [decide_eq_true_eq, decide_eq_false_iff_not, Bool.not_eq_true', Bool.not_eq_false', Option.isNone_some, Option.isNone_none, Bool.not_true, Bool.not_false] at h
        refine tc_exit ?_
        refine q_then_e (q_then_e (q_block_x (q_then_n ?_)))
        refine tc_seq ?_
        refine tc_reg ?_
        refine tl_v rfl (o_move (by conv => lhs; whnf)) ?_
        refine tl_v rfl (o_assign (by conv => lhs; whnf)) ?_
        refine tl_v rfl (o_assign (by conv => lhs; whnf)) ?_
        refine tl_nil ?_
        refine q_then_n ?_
        refine tc_ret ?_
        obtain rfl : i = n := by omega
        rw [fromP_all]
        exact ⟨_, _, res2 rfl rfl rfl, fun _ _ h => h, d12, rfl, rfl⟩
end Go.Vl

set_option linter.unusedVariables false
set_option linter.unusedSimpArgs false
namespace Go.Vl
open Go Go.Proofs
theorem doneE_ok {s : DevS} (h : doneE s = 0) : (doneS s).off = s.off ∧ (doneS s).ls = s.ls := by
  unfold doneE at h; unfold doneS
  split <;> rename_i e
  · exact ⟨rfl, rfl⟩
  · rw [e] at h
    split
    · exact ⟨rfl, rfl⟩
    · rename_i h1; simp [h1] at h
theorem layS_off (p v : Nat) (s : DevS) : (layS p v s).off = s.off := (onLine_fields _ _ s).2.2.2.1
theorem layS_len (p v : Nat) (s : DevS) : (layS p v s).ls.length = s.ls.length := (onLine_fields _ _ s).2.2.2.2
theorem stW_len {p : Nat} {b : List Nat} {s : DevS} : (stW p b s).length = 8 := by
  unfold stW; rw [spl_length, le_length]; rw [le_length, List.length_take]; omega
theorem stW_bytes {p : Nat} {b : List Nat} {s : DevS} (hb : ∀ x ∈ b, x < 256) : ∀ x ∈ stW p b s, x < 256 := fun x hx => by
  unfold stW spl at hx
  simp only [List.mem_append] at hx
  rcases hx with (h | h) | h
  · exact le_bytes _ _ _ (List.mem_of_mem_take h)
  · exact hb _ (List.mem_of_mem_take h)
  · exact le_bytes _ _ _ (List.mem_of_mem_drop h)
theorem storeF_step {p : Nat} {b : List Nat} {s : DevS} (h : b ≠ []) : storeF b.length p b s = if doneE (layS (p - p % 8) (nm (stW p b s)) s) ≠ 0 then (doneE (layS (p - p % 8) (nm (stW p b s)) s), doneS (layS (p - p % 8) (nm (stW p b s)) s))
    else storeF (b.drop (8 - p % 8)).length (p + min b.length (8 - p % 8)) (b.drop (8 - p % 8)) (doneS (layS (p - p % 8) (nm (stW p b s)) s)) := by
  match b, h with
  | x :: l, _ =>
    show storeF (l.length + 1) p (x :: l) s = _
    conv => lhs; unfold storeF
    rw [if_neg (by simp)]
    split
    · rfl
    · rw [Nat.min_comm]; exact storeF_fuel _ _ (by rw [List.length_drop, List.length_cons]; omega) (Nat.le_refl _)
theorem stW_cells {p n : Nat} {b : List Nat} {s : DevS} {w : Nat} (hw : w = (seenL (s.ls.getD (p / 64) zline)).getD (p % 64 / 8) 0) (hn : n = min b.length (8 - p % 8)) : splice (bys (le 8 w)) (p % 8) ((bys b).take n) = bys (stW p b s) := by
  have h1 : (bys b).take n = bys (b.take (8 - p % 8)) := by
    unfold bys; rw [← List.map_take]; congr 1
    rw [hn]
    rcases Nat.le_total b.length (8 - p % 8) with h | h
    · rw [Nat.min_eq_left h, List.take_length, List.take_of_length_le h]
    · rw [Nat.min_eq_right h]
  rw [h1, splice_spl (by simp only [bys_length, le_length, List.length_take]; omega), spl_bys, hw]; rfl
theorem stW_nm {p : Nat} {b : List Nat} {s : DevS} (hb : ∀ x ∈ b, x < 256) : nm (stW p b s) < 18446744073709551616 := by
  have := nm_lt _ (stW_bytes (p := p) (s := s) hb)
  rw [stW_len] at this; exact this
theorem seenL_getD {s : DevS} {i : Nat} (h : i < s.ls.length) : s.ls.getD i zline = s.ls[i] := by simp [List.getD, h]
set_option maxRecDepth 20000 in
set_option maxHeartbeats 1000000 in
theorem StoreW_f (F : SP) {a : Option Addr} {c m d : Nat} {p0 : Int} {s : DevS} {xs : List Nat} (hr : Rs F a (bys xs)) (hm : xs.length = m) (hmc : m ≤ c) (hb : ∀ x ∈ xs, x < 256) (hml : m ≤ 140737488351232) (hp : -9223372036854775808 ≤ p0 ∧ p0 ≤ 9223372036854775807) (hroom : rdy s.ls.length s.off p0 m = 0 → Room m s) :
    Fn Try.prog 43 #[.pointer (some ⟨d, 0, none⟩), .int .i64 p0, .slice a m c] (F * Dev d s) (fun r B => r = .int .i64 (sto p0 xs s).1 ∧ B = F * Dev d (sto p0 xs s).2) := by
  have hE := @fn_enterW Try.prog 43 Try.f43 _ [.pointer (some ⟨d, 0, none⟩), .int .i64 p0, .slice a m c] (F * Dev d s) (fun r B => r = .int .i64 (sto p0 xs s).1 ∧ B = F * Dev d (sto p0 xs s).2) _ Try.func43 rfl Try.ntmps43 (by simp)
  refine hE ?_
  clear hE
  refine tc_dev fun hw _ _ _ _ _ _ => ?_
  have hpos := hw.pos
  have htop := hw.top
  refine tc_pre (dev_back hw ‹_› ‹_›) ?_
  refine tc_seq ?_
  refine tc_reg ?_
  refine tl_v rfl (o_assign (by conv => lhs; whnf)) ?_
  refine tl_nil ?_
  refine q_then_n ?_
  refine tc_seq ?_
  refine tc_seq ?_
  refine tc_reg ?_
  refine tl_v rfl (o_move (by conv => lhs; whnf)) ?_
  refine tl_v rfl (o_move (by conv => lhs; whnf)) ?_
  refine tl_v rfl (o_move (by conv => lhs; whnf)) ?_
  refine tl_v rfl (o_len Try.underlying28 rfl) ?_
  refine tl_c rfl (o_call bd88 rfl (ready_c)) ?_
  rintro _ _ ⟨rfl, rfl⟩
  refine tl_v rfl (o_assign (by conv => lhs; whnf)) ?_
  refine tl_nil ?_
  refine q_then_n ?_
  refine tc_seq ?_
  refine tc_reg ?_
  refine tl_v rfl (o_move (by conv => lhs; whnf)) ?_
  refine tl_v rfl (o_nei rfl rfl) ?_
  refine tl_nil ?_
  refine q_then_n ?_
  refine tc_cond rfl (fun h => ?_) (fun h => ?_)
  · try simp only [decide_eq_true_eq, decide_eq_false_iff_not, Bool.not_eq_true', Bool.not_eq_false', Option.isNone_some, Option.isNone_none, Bool.not_true, Bool.not_false] at h
    refine tc_seq ?_
    refine tc_reg ?_
    refine tl_v rfl (o_move (by conv => lhs; whnf)) ?_
    refine tl_v rfl (o_assign (by conv => lhs; whnf)) ?_
    refine tl_nil ?_
    refine q_then_n ?_
    refine tc_ret ?_
    refine q_then_r ?_
    have hs : sto p0 xs s = (rdy s.ls.length s.off p0 m, s) := by unfold sto; rw [hm, if_pos h]
    rw [hs]
    exact ⟨_, _, res1 rfl rfl, fun _ _ h => h, rfl, rfl⟩
  · simp only [bne_iff_ne, ne_eq, decide_eq_false_iff_not, Decidable.not_not] at h
    have hr0 := rdy0 h
    obtain ⟨q, rfl⟩ := Int.eq_ofNat_of_zero_le hr0.2.1
    have hsto : sto (q : Int) xs s = storeF xs.length q xs s := by unfold sto; rw [hm, if_neg (by omega)]; rfl
    rw [hsto]
    refine tc_skip ?_
    refine q_then_n ?_
    refine tc_seq ?_
    refine tc_block ?_
    refine tc_loop (fun kk ρ BB => ∃ (p : Nat) (m1 : Nat) (c1 : Nat) (a1 : Option Addr) (b : List Nat) (s1 : DevS), (storeF b.length p b s1 = storeF xs.length q xs s) ∧ (b.length = m1) ∧ (Rs F a1 (bys b)) ∧ (∀ x ∈ b, x < 256) ∧ (m1 ≤ c1) ∧ (p + m1 ≤ s1.ls.length * 64) ∧ (s1.off = false) ∧ (Room m1 s1) ∧ (m1 ≤ m) ∧ (s1.ls.length = s.ls.length) ∧ kk = m1 ∧ ρ 1 = .int .i64 (p : Nat) ∧ ρ 2 = .slice a1 m1 c1 ∧ ρ 0 = .pointer (some ⟨d, 0, none⟩) ∧ BB = F * Dev d s1) (m := (m)) ?_ ?_
    · exact ⟨q, m, c, a, xs, s, rfl, hm, hr, hb, hmc, by omega, hr0.1, hroom h, Nat.le_refl _, rfl, rfl, rfl, rfl, rfl, rfl⟩
    · intro k ρ B hI
      obtain ⟨p, m1, c1, a1, b, s1, hp0, hp1, hp2, hp3, hp4, hp5, hp6, hp7, hp8, hp9, hkk1, hE1, hE2, hE0, rfl⟩ := hI
      refine tc_env (d := 1) hE1 ?_
      refine tc_env (d := 2) hE2 ?_
      refine tc_env (d := 0) hE0 ?_
      clear hE1 hE2 hE0
      refine tc_seq ?_
      refine tc_seq ?_
      refine tc_reg ?_
      refine tl_v rfl (o_move (by conv => lhs; whnf)) ?_
      refine tl_v rfl (o_len Try.underlying28 rfl) ?_
      refine tl_v rfl (o_gtr rfl rfl) ?_
      refine tl_nil ?_
      refine q_then_n ?_
      refine tc_cond rfl (fun h => ?_) (fun h => ?_)
      · simp only [decide_eq_true_eq, gt_iff_lt] at h
        have hb0 : b ≠ [] := by intro e; subst e; simp at hp1; omega
        have hpl : p / 64 < s1.ls.length := by omega
        have hpn : p ≤ 4194304 := by omega
        refine tc_skip ?_
        refine q_then_n ?_
        refine tc_block ?_
        refine tc_seq ?_
        refine tc_reg ?_
        refine tl_v rfl (o_move (by conv => lhs; whnf)) ?_
        refine tl_v rfl (o_move (by conv => lhs; whnf)) ?_
        refine tl_v rfl (o_remN (b := 8) rfl rfl (by omega)) ?_
        refine tl_v rfl (by first | exact o_subI rfl rfl (by omega) | exact o_sub rfl rfl) ?_
        refine tl_env (d := 29) (v := .int .i64 ((p - p % 8 : Nat) : Int)) (by show Value.int .i64 ((p : Int) - ((p % 8 : Nat) : Int)) = _; congr 1; omega) ?_
        refine tl_v rfl (o_assign (by conv => lhs; whnf)) ?_
        refine tl_nil ?_
        refine q_then_n ?_
        refine tc_seq ?_
        refine tc_reg ?_
        refine tl_v rfl (o_move (by conv => lhs; whnf)) ?_
        refine tl_v rfl (o_nilCheck rfl) ?_
        refine tl_dev fun hw1 bl svs av kvs hsv hkv => ?_
        refine tl_have (fun _ _ h => devR_of hw1 hsv h) fun hR => ?_
        have hwl := hw1.line _ (List.getElem_mem hpl)
        have hs8 := hwl.eight _ (seenL_mem hwl)
        have hq1 : (p - p % 8) / 64 = p / 64 := by omega
        have hq2 : (p - p % 8) % 64 / 8 = p % 64 / 8 := by omega
        refine tl_v rfl (o_fieldAddr (o := 0) Try.underlying97 rfl rfl sz95 rfl) ?_
        refine tl_v rfl (o_load p95 rfl devC_d rfl) ?_
        refine tl_v rfl (o_move (by conv => lhs; whnf)) ?_
        refine tl_v rfl (o_quoN (b := 64) rfl rfl (by omega)) ?_
        refine tl_v rfl (o_indexAddrN (j := p / 64) Try.underlying95 sz150 rfl (by show Value.int .i64 _ = Value.int .i64 _; congr 2) hpl) ?_
        refine tl_c rfl (o_call bd89 rfl (seenR_f hR hpl)) ?_
        rintro _ _ ⟨rfl, rfl⟩
        refine tl_pre (dev_back hw1 hsv hkv) ?_
        refine tl_x rfl (o_alloc z147 rfl) ?_
        rintro _ _ ⟨b9, rfl, rfl⟩
        refine tl_u rfl (o_stUN (l' := wds (seenL s1.ls[p / 64])) rfl upd_here sz147 rfl (by rw [wds_length]; exact hs8) (wds_all _) (by simp) (splice_all (by rw [wds_length, hs8]; rfl))) ?_
        refine tl_nil ?_
        refine q_then_n ?_
        refine tc_seq ?_
        refine tc_reg ?_
        refine tl_x rfl (o_alloc z157 rfl) ?_
        rintro _ _ ⟨b10, rfl, rfl⟩
        refine tl_nil ?_
        refine q_then_n ?_
        refine tc_seq ?_
        refine tc_regh (S := F * Dev d s1 * pt b9 (cl (wds (seenL s1.ls[p / 64])) 147)) mo (by repeat (first | with_reducible exact dr_refl | apply dr_keep | apply dr_drop)) ?_
        show TH _ _ _ _ _ 8 #[false, false, false, false, false, false, false, false] _ _
        refine th_take (i := 0) (listed' := #[true, false, false, false, false, false, false, false]) rfl (by kernel_rfl) (by kernel_rfl) (by kernel_rfl) rfl rfl (o_sliceA Try.underlying157 sz5 rfl bnd_none bnd_none (by omega) (by omega)) ?_
        refine th_take (i := 1) (listed' := #[true, true, false, false, false, false, false, false]) rfl (by kernel_rfl) (by kernel_rfl) (by kernel_rfl) rfl rfl (o_move (by conv => lhs; whnf)) ?_
        refine th_take (i := 2) (listed' := #[true, true, true, false, false, false, false, false]) rfl (by kernel_rfl) (by kernel_rfl) (by kernel_rfl) rfl rfl (o_remN (b := 64) rfl rfl (by omega)) ?_
        refine th_take (i := 3) (listed' := #[true, true, true, true, false, false, false, false]) rfl (by kernel_rfl) (by kernel_rfl) (by kernel_rfl) rfl rfl (o_quoN (b := 8) rfl rfl (by omega)) ?_
        refine th_take (i := 4) (listed' := #[true, true, true, true, true, false, false, false]) rfl (by kernel_rfl) (by kernel_rfl) (by kernel_rfl) rfl rfl (o_indexAddrAN1 (j := p % 64 / 8) Try.underlying147 sz53 rfl (by show Value.int .i64 _ = Value.int .i64 _; congr 2) (by omega)) ?_
        refine th_take (i := 5) (listed' := #[true, true, true, true, true, true, false, false]) rfl (by kernel_rfl) (by kernel_rfl) (by kernel_rfl) rfl rfl (o_load p53 rfl (by repeat (first | with_reducible exact has_here | with_reducible exact has_pt | apply has_left)) (by rw [Nat.zero_add]; exact wds_at (i := p % 64 / 8) (by rw [hs8]; omega))) ?_
        refine th_one (i := 6) (by kernel_rfl) ?_
        refine oh_c (i := 6) (listed' := #[true, true, true, true, true, true, true, false]) rfl rfl rfl (o_call bd99 rfl (Put64_c (xs := []) (hv := hwl.words _ (seenL_mem hwl) _ (List.getElem_mem _)))) ?_
        rintro _ _ ⟨a44, c44, rfl, hc44, rfl⟩
        refine ⟨by repeat (first | with_reducible exact dr_refl | apply dr_keep | apply dr_drop), ?_⟩
        refine th_one (i := 7) (by kernel_rfl) ?_
        refine oh_x (i := 7) (listed' := #[true, true, true, true, true, true, true, true]) rfl rfl rfl (o_cpB (m := 8) (l' := bys (le 8 ((seenL s1.ls[p / 64])[p % 64 / 8]'(by rw [hs8]; omega)))) rfl (by repeat (first | with_reducible exact upd_here | with_reducible exact upd_pt | apply upd_left)) Try.underlying28 sz5 rfl (by repeat (first | assumption | with_reducible exact rs_sl | with_reducible exact rs_pt0 | exact rs_none | apply Rs.left)) (by rw [bys_length, List.nil_append, le_length]) rfl (bys_all _) (by simp) (by rw [List.nil_append, List.take_of_length_le (by rw [bys_length, le_length]; omega)]; exact splice_all (by rw [bys_length, le_length]; rfl))) ?_
        rintro _ _ ⟨rfl, rfl⟩
        refine ⟨by repeat (first | with_reducible exact dr_refl | apply dr_keep | apply dr_drop), ?_⟩
        refine th_done (by kernel_rfl) ?_
        refine q_then_n ?_
        refine tc_seq ?_
        refine tc_reg ?_
        refine tl_v rfl (o_move (by conv => lhs; whnf)) ?_
        refine tl_v rfl (o_move (by conv => lhs; whnf)) ?_
        refine tl_v rfl (by first | exact o_subI rfl rfl (by omega) | exact o_sub rfl rfl) ?_
        refine tl_env (d := 48) (v := .int .i64 ((p % 8 : Nat) : Int)) (by show Value.int .i64 ((p : Int) - ((p - p % 8 : Nat) : Int)) = _; congr 1; omega) ?_
        refine tl_v rfl (o_sliceA Try.underlying157 sz5 rfl (bnd_nat rfl) bnd_none (by omega) (by omega)) ?_
        refine tl_env (d := 49) (v := .slice (some ⟨b10, p % 8, none⟩) (8 - p % 8) (8 - p % 8)) (by show Value.slice (cutAddr _ _ _ _) _ _ = _; rw [cut_lt (by omega)]; simp) ?_
        refine tl_v rfl (o_move (by conv => lhs; whnf)) ?_
        refine tl_x rfl (o_cpB (m := min m1 (8 - p % 8)) (xs := bys b) (l' := bys (stW p b s1)) rfl (by repeat (first | with_reducible exact upd_here | with_reducible exact upd_pt | apply upd_left)) Try.underlying28 sz5 rfl (by repeat (first | assumption | with_reducible exact rs_sl | with_reducible exact rs_pt0 | exact rs_none | apply Rs.left)) (by rw [bys_length, hp1]) rfl (bys_all _) (by rw [bys_length, le_length]; omega) (stW_cells (by rw [seenL_getD hpl]; simp [List.getD, hs8, show p % 64 / 8 < 8 by omega]) (by rw [hp1]))) ?_
        rintro _ _ ⟨rfl, rfl⟩
        refine tl_v rfl (o_assign (by conv => lhs; whnf)) ?_
        refine tl_nil ?_
        refine q_then_n ?_
        refine tc_seq ?_
        refine tc_reg ?_
        refine tl_v rfl (o_sliceA Try.underlying157 sz5 rfl bnd_none bnd_none (by omega) (by omega)) ?_
        refine tl_env (d := 53) (v := .slice (some ⟨b10, 0, none⟩) 8 8) (rfl) ?_
        refine tl_c rfl (o_call bd98 rfl (Take64_c (xs := stW p b s1) (hm := stW_len) (hb := stW_bytes hp3) (p := 0))) ?_
        rintro _ _ ⟨rfl, rfl⟩
        refine tl_v rfl (o_move (by conv => lhs; whnf)) ?_
        refine tl_v rfl (o_extract rfl rfl) ?_
        refine tl_v rfl (o_extract rfl rfl) ?_
        refine tl_v rfl (o_assign (by conv => lhs; whnf)) ?_
        refine tl_env (d := 12) (v := .int .u64 ((nm (stW p b s1) : Nat) : Int)) (by show Value.int .u64 ((nm (((stW p b s1).drop 0).take 8) : Nat) : Int) = _; rw [List.drop_zero, List.take_of_length_le (by rw [stW_len]; omega)]) ?_
        refine tl_v rfl (o_assign (by conv => lhs; whnf)) ?_
        refine tl_nil ?_
        refine q_then_n ?_
        refine tc_seq ?_
        refine tc_seq ?_
        refine tc_reg ?_
        refine tl_v rfl (o_move (by conv => lhs; whnf)) ?_
        refine tl_v rfl (o_move (by conv => lhs; whnf)) ?_
        refine tl_v rfl (o_move (by conv => lhs; whnf)) ?_
        have hrm1 : Room 1 s1 := fun l hl => by have := hp7 l hl; omega
        refine tl_c rfl (o_call bd97 rfl (lay_c (p := p - p % 8) (hat := by rw [hq1]; exact hpl) (hv := stW_nm hp3))) ?_
        rintro _ _ ⟨rfl, rfl⟩
        refine tl_v rfl (o_assign (by conv => lhs; whnf)) ?_
        refine tl_nil ?_
        refine q_then_n ?_
        refine tc_seq ?_
        refine tc_reg ?_
        refine tl_v rfl (o_move (by conv => lhs; whnf)) ?_
        refine tl_v rfl (o_nei rfl rfl) ?_
        refine tl_nil ?_
        refine q_then_n ?_
        refine tc_cond rfl (fun h => ?_) (fun h => ?_)
        · try simp only [decide_eq_true_eq, decide_eq_false_iff_not, Bool.not_eq_true', Bool.not_eq_false', Option.isNone_some, Option.isNone_none, Bool.not_true, Bool.not_false] at h
          refine tc_seq ?_
          refine tc_reg ?_
          refine tl_v rfl (o_move (by conv => lhs; whnf)) ?_
          refine tl_v rfl (o_assign (by conv => lhs; whnf)) ?_
          refine tl_nil ?_
          refine q_then_n ?_
          refine tc_ret ?_
          refine q_then_r (q_block_r (q_then_r (q_block_r (q_then_r ?_))))
          simp only [decide_eq_true_eq, ne_eq] at h
          have e : storeF xs.length q xs s = (doneE (layS (p - p % 8) (nm (stW p b s1)) s1), doneS (layS (p - p % 8) (nm (stW p b s1)) s1)) := by rw [← hp0, storeF_step hb0, if_pos h]
          exact ⟨.int .i64 (doneE (layS (p - p % 8) (nm (stW p b s1)) s1)), F * Dev d (doneS (layS (p - p % 8) (nm (stW p b s1)) s1)), res1 rfl rfl, Dr.sat (by repeat (first | with_reducible exact dr_refl | apply dr_keep | apply dr_drop)), by rw [e], by rw [e]⟩
        · simp only [decide_eq_false_iff_not, ne_eq, Decidable.not_not] at h
          obtain ⟨hd1, hd2⟩ := doneE_ok h
          have hstep : storeF (b.drop (8 - p % 8)).length (p + min m1 (8 - p % 8)) (b.drop (8 - p % 8)) (doneS (layS (p - p % 8) (nm (stW p b s1)) s1)) = storeF xs.length q xs s := by rw [← hp0, storeF_step hb0, if_neg (by simpa using h), hp1]
          have hrm2 : Room (m1 - min m1 (8 - p % 8)) (doneS (layS (p - p % 8) (nm (stW p b s1)) s1)) := fun l hl => by
            rw [hd2] at hl
            have h1 : Room ((m1 - 1) + 1) s1 := fun l hl => by have := hp7 l hl; omega
            have := onLine_room (f := layL ((p - p % 8) % 64 / 8) (nm (stW p b s1))) (i := (p - p % 8) / 64) h1 (fun l => by simp [layL]) l hl
            omega
          have hrs2 : Rs F (cutAddr a1 c1 (min m1 (8 - p % 8)) 1) (bys (b.drop (8 - p % 8))) := by
            have h1 := rs_cut (l := min m1 (8 - p % 8)) (k := 1) (cap := c1) hp2 (by rw [bys_length]; omega)
            have h2 : (bys b).drop (min m1 (8 - p % 8) * 1) = bys (b.drop (8 - p % 8)) := by
              unfold bys
              rw [← List.map_drop, Nat.mul_one]; congr 1
              rcases Nat.le_total m1 (8 - p % 8) with h | h
              · rw [Nat.min_eq_left h, List.drop_of_length_le (by omega), List.drop_of_length_le (by omega)]
              · rw [Nat.min_eq_right h]
            rw [h2] at h1; exact h1
          refine tc_skip ?_
          refine q_then_n ?_
          refine tc_seq ?_
          refine tc_reg ?_
          refine tl_v rfl (o_move (by conv => lhs; whnf)) ?_
          refine tl_v rfl (o_move (by conv => lhs; whnf)) ?_
          refine tl_v rfl (by first | exact o_addI rfl rfl (by omega) | exact o_add rfl rfl) ?_
          refine tl_env (d := 66) (v := .int .i64 ((p + min m1 (8 - p % 8) : Nat) : Int)) (rfl) ?_
          refine tl_v rfl (o_assign (by conv => lhs; whnf)) ?_
          refine tl_nil ?_
          refine q_then_n ?_
          refine tc_reg ?_
          refine tl_v rfl (o_move (by conv => lhs; whnf)) ?_
          refine tl_v rfl (o_move (by conv => lhs; whnf)) ?_
          refine tl_v rfl (o_slice Try.underlying28 sz5 rfl (bnd_nat rfl) bnd_none (Nat.min_le_left _ _) hp4) ?_
          refine tl_pre (Dr.sat (A' := F * Dev d (doneS (layS (p - p % 8) (nm (stW p b s1)) s1))) (by repeat (first | with_reducible exact dr_refl | apply dr_keep | apply dr_drop))) ?_
          refine tl_v rfl (o_assign (by conv => lhs; whnf)) ?_
          refine tl_nil ?_
          refine q_block_n (q_then_n ?_)
          exact ⟨_, by omega, p + min m1 (8 - p % 8), m1 - min m1 (8 - p % 8), _, _, b.drop (8 - p % 8), _, hstep, by rw [List.length_drop]; omega, hrs2, fun x hx => hp3 x (List.mem_of_mem_drop hx), by omega, by rw [hd2, layS_len]; omega, by rw [hd1, layS_off]; exact hp6, hrm2, by omega, by rw [hd2, layS_len]; exact hp9, rfl, rfl, rfl, rfl, rfl⟩
      · try simp only [decide_eq_true_eq, decide_eq_false_iff_not, Bool.not_eq_true', Bool.not_eq_false', Option.isNone_some, Option.isNone_none, Bool.not_true, Bool.not_false] at h
        refine tc_exit ?_
        refine q_then_e (q_then_e (q_block_x (q_then_n ?_)))
        refine tc_seq ?_
        refine tc_reg ?_
        refine tl_v rfl (o_assign (by conv => lhs; whnf)) ?_
        refine tl_nil ?_
        refine q_then_n ?_
        refine tc_ret ?_
        obtain rfl : b = [] := by cases b with
          | nil => rfl
          | cons _ _ => simp at hp1; omega
        have e : storeF xs.length q xs s = (0, s1) := by rw [← hp0, storeF_nil]
        exact ⟨.int .i64 0, F * Dev d s1, res1 rfl rfl, fun _ _ h => h, by rw [e], by rw [e]⟩
theorem Store_c {A R : SP} {C : SP → SP} {d : Nat} {s : DevS} (hc : Ct A (Dev d s) R C := by repeat (first | with_reducible exact ct_here | apply ct_left)) {a : Option Addr} {c m : Nat} {p : Int} {xs : List Nat} (hr : Rs R a (bys xs) := by repeat (first | assumption | with_reducible exact rs_sl | with_reducible exact rs_pt0 | exact rs_none | apply Rs.left)) (hm : xs.length = m := by first | assumption | rfl) (hmc : m ≤ c := by first | assumption | omega) (hb : ∀ x ∈ xs, x < 256 := by assumption) (hml : m ≤ 140737488351232 := by omega) (hp : -9223372036854775808 ≤ p ∧ p ≤ 9223372036854775807 := by omega) (hroom : rdy s.ls.length s.off p m = 0 → Room m s := by assumption) :
    Fn Try.prog 43 #[.pointer (some ⟨d, 0, none⟩), .int .i64 p, .slice a m c] A (fun r B => ∃ e s2, sto p xs s = (e, s2) ∧ r = .int .i64 e ∧ B = C (Dev d s2)) := by
  obtain ⟨rfl, hC⟩ := hc
  exact (StoreW_f R hr hm hmc hb hml hp hroom).mono fun _ _ h => ⟨(sto p xs s).1, (sto p xs s).2, rfl, h.1, by rw [hC]; exact h.2⟩
end Go.Vl

set_option linter.unusedVariables false
set_option linter.unusedSimpArgs false
namespace Go.Vl
open Go Go.Proofs
theorem CloneIN_f {A : SP} {n c : Nat} :
    Fn Try.prog 100 #[.slice none n c] (A) (fun r B => r = .slice none 0 0 ∧ A = B) := by
  refine fn_enterW (args := [.slice none n c]) Try.func100 rfl Try.ntmps100 (by simp) ?_
  refine tc_seq ?_
  refine tc_reg ?_
  refine tl_v rfl (o_assign (by conv => lhs; whnf)) ?_
  refine tl_nil ?_
  refine q_then_n ?_
  refine tc_seq ?_
  refine tc_seq ?_
  refine tc_reg ?_
  refine tl_v rfl (o_move (by conv => lhs; whnf)) ?_
  refine tl_v rfl (o_eqs Try.underlying37 rfl rfl) ?_
  refine tl_nil ?_
  refine q_then_n ?_
  refine tc_cond rfl (fun h => ?_) (fun h => ?_)
  · try simp only [decide_eq_true_eq, decide_eq_false_iff_not, Bool.not_eq_true', Bool.not_eq_false', Option.isNone_some, Option.isNone_none, Bool.not_true, Bool.not_false] at h
    refine tc_seq ?_
    refine tc_reg ?_
    refine tl_v rfl (o_assign (by conv => lhs; whnf)) ?_
    refine tl_nil ?_
    refine q_then_n ?_
    refine tc_ret ?_
    refine q_then_r ?_
    exact ⟨_, _, res1 rfl rfl, fun _ _ h => h, rfl, rfl⟩
  · (exfalso; first | (revert h; simp; done) | (simp at h; done) | (revert h; simp; omega) | (simp at h; omega) | omega)
theorem CloneI_c {A : SP} {a : Option Addr} {n c : Nat} {xs : List Value} (hr : Rs A a xs := by repeat (first | assumption | with_reducible exact rs_sl | with_reducible exact rs_pt0 | exact rs_none | apply Rs.left)) (hl : xs.length = n * 1 := by first | assumption | (simp only [ints_length]; omega)) (ho : xs.all oneC = true := by first | exact bys_all _ | exact ints_all _ | exact wds_all _ | exact bos_all _ | rfl) (hs : n * 8 ≤ 140737488355328 := by omega) :
    Fn Try.prog 100 #[.slice a n c] A (fun r B => ∃ a' c', r = .slice a' n c' ∧ n ≤ c' ∧ B = A * Sl 1 (.slice a' n c') n xs) := by
  refine fn_rs hr fun hr => ?_
  cases a with
  | none =>
    have hx : xs = [] := by
      rcases hr with h | ⟨b, o, e, _⟩
      · exact h
      · cases e
    subst hx
    have hn : n = 0 := by simp at hl; omega
    subst hn
    intro g w hs
    refine (CloneIN_f (n := 0) (c := c) g w hs).mono ?_
    rintro e w' ⟨v, B, rfl, ⟨rfl, rfl⟩, hB⟩
    exact ⟨_, _, rfl, ⟨none, 0, rfl, Nat.le_refl _, rfl⟩, sl_nil hB⟩
  | some p => exact fn_sl (CloneI_f A n c xs p hr hl ho hs)
theorem low_c {A : SP} {a : Option Addr} {c m : Nat} {xs : List Int} (hr : Rs A a (ints xs) := by repeat (first | assumption | with_reducible exact rs_sl | with_reducible exact rs_pt0 | exact rs_none | apply Rs.left)) (hm : xs.length = m := by first | assumption | rfl) (hl : m ≤ 1099511627776000 := by omega) : Fn Try.prog 91 #[.slice a m c] A (fun r B => r = .bool (lowB xs) ∧ A = B) := by
  subst hm; exact fn_rs hr fun hr => low_f A a c xs hr hl
/-- Arms, to be read. -/
structure RdA (A : SP) (a : Option Addr) (kvs : List Value) (ars : List (Int × List Int)) : Prop where
  rd : Rs A a (acs kvs ars)
  len : kvs.length = ars.length
  keep : ∀ i (h : i < ars.length), ∃ b c, kvs[i]? = some (.slice b ars[i].2.length c) ∧ ars[i].2.length ≤ c ∧ Rs A b (ints ars[i].2)
theorem RdA.left {A X : SP} {a : Option Addr} {kvs : List Value} {ars : List (Int × List Int)} (h : RdA A a kvs ars) : RdA (A * X) a kvs ars :=
  ⟨h.rd.left, h.len, fun i hi => by obtain ⟨b, c, e, hc, hr⟩ := h.keep i hi; exact ⟨b, c, e, hc, hr.left⟩⟩
theorem acs_length : ∀ {kvs : List Value} {ars : List (Int × List Int)}, kvs.length = ars.length → (acs kvs ars).length = ars.length * 2
  | [], [], _ => rfl
  | v :: vs, a :: ar, h => by simp only [acs, List.length_cons] at *; rw [acs_length (by omega)]; omega
theorem acs_at : ∀ {kvs : List Value} {ars : List (Int × List Int)} {i : Nat} (h : kvs.length = ars.length) (hi : i < ars.length), ((acs kvs ars).drop (i * 2)).take 2 = [.int .i64 ars[i].1, kvs[i]'(by omega)]
  | [], [], _, _, hi => by simp at hi
  | v :: vs, a :: ar, 0, _, _ => rfl
  | v :: vs, a :: ar, i + 1, h, hi => by
    rw [show (i + 1) * 2 = i * 2 + 1 + 1 by omega]
    show ((acs vs ar).drop (i * 2)).take 2 = _
    rw [acs_at (by simpa using h) (by simpa using hi)]; rfl
theorem acs_snoc : ∀ {kvs : List Value} {ars : List (Int × List Int)} {v : Value} {x : Int × List Int} (_ : kvs.length = ars.length), acs (kvs ++ [v]) (ars ++ [x]) = acs kvs ars ++ [.int .i64 x.1, v]
  | [], [], _, _, _ => rfl
  | u :: vs, y :: ar, v, x, h => by
    show _ :: u :: acs (vs ++ [v]) (ar ++ [x]) = _
    rw [acs_snoc (by simpa using h)]; rfl
theorem keepsR_snoc : ∀ {kvs : List Value} {ars : List (Int × List Int)} {v : Value} {x : Int × List Int} (_ : kvs.length = ars.length), KeepsR (kvs ++ [v]) (ars ++ [x]) = KeepsR kvs ars * SlR 1 v x.2.length (ints x.2)
  | [], [], _, _, _ => rfl
  | u :: vs, y :: ar, v, x, h => by
    show KeepsR (vs ++ [v]) (ar ++ [x]) * SlR 1 u y.2.length (ints y.2) = _
    rw [keepsR_snoc (by simpa using h)]
    show _ = KeepsR vs ar * SlR 1 u y.2.length (ints y.2) * SlR 1 v x.2.length (ints x.2)
    rw [star_swap]
theorem sl_share {k n : Nat} {v : Value} {xs : List Value} {R : SP} {g : Gh} {w : World} (hs : sat g w (R * Sl k v n xs)) : sat g w (R * SlR k v n xs) := by
  obtain ⟨hl, ⟨e1, e2, h⟩ | ⟨b, off, cap, l, E, e1, h1, h2, h3, h⟩⟩ := sl_iff.1 hs
  · obtain ⟨x, ha, hx⟩ := h.hp
    refine ⟨h.os, h.tape, h.out, x, ⟨x, fun _ => none, fun _ => .inr (.inl rfl), ?_, ha, hl, .inl ⟨e1, e2, rfl⟩⟩, hx⟩
    funext b; simp [Hp.un]
  · have h' := h.share
    obtain ⟨_, ⟨x, y, hd, rfl, ha, hb⟩, hx⟩ := h'.hp
    exact ⟨h'.os, h'.tape, h'.out, _, ⟨x, y, hd, rfl, ha, hl, .inr ⟨b, off, cap, l, E, e1, h1, h2, h3, hb⟩⟩, hx⟩
theorem devC_open {F : SP} {d bl : Nat} {svs kvs : List Value} {av : Value} {s : DevS} : F * DevC d bl svs av kvs s = F * KeepsR kvs s.arms * LinesR svs s.ls * pt bl (cl (lcs svs s.ls) 150) * pt d (cl (dcs bl s.ls.length s av) 97) * Sl 2 av s.arms.length (acs kvs s.arms) := by
  unfold DevC ArmsR; ac_rfl
theorem arm_back {F J : SP} {d bl : Nat} {svs kvs : List Value} {v av : Value} {x : Int × List Int} {s : DevS} (hw : WfD { s with arms := s.arms ++ [x] }) (hsv : svs.length = s.ls.length) (hkv : kvs.length = s.arms.length) {g : Gh} {w : World}
    (hs : sat g w (F * KeepsR kvs s.arms * LinesR svs s.ls * pt bl (cl (lcs svs s.ls) 150) * pt d (cl (dcs bl s.ls.length s av) 97) * Sl 1 v x.2.length (ints x.2) * Sl 2 av (s.arms.length + 1) (acs kvs s.arms ++ [.int .i64 x.1, v]) * J)) : sat g w (F * Dev d { s with arms := s.arms ++ [x] }) := by
  have h1 := hs.left
  rw [star_swap] at h1
  have h2 := sl_share h1
  refine dev_back (bl := bl) (svs := svs) (av := av) (kvs := kvs ++ [v]) hw hsv (by simp [hkv]) g w ?_
  rw [devC_open]
  simp only [acs_snoc hkv, keepsR_snoc hkv, List.length_append, List.length_singleton]
  exact h2.perm (by show _ = F * (KeepsR kvs s.arms * SlR 1 v x.2.length (ints x.2)) * LinesR svs s.ls * pt bl (cl (lcs svs s.ls) 150) * pt d (cl (dcs bl s.ls.length s av) 97) * Sl 2 av (s.arms.length + 1) (acs kvs s.arms ++ [.int .i64 x.1, v]); ac_rfl)
def badA (x : Int × List Int) : Bool := decide (x.1 < 1) || lowB x.2
/-- What Arm answers, and the device behind it. -/
def armS (ars : List (Int × List Int)) (s : DevS) : Int × DevS := if s.off then (5, s) else if ars.any badA then (2, s) else if 64 < ars.length + s.arms.length then (4, s) else (0, { s with arms := s.arms ++ ars })
theorem low_nn {l : List Int} (h : lowB l = false) : ∀ k ∈ l, 0 ≤ k := fun k hk => by
  unfold lowB at h
  rw [List.any_eq_false] at h
  have := h k hk
  simpa using this
theorem arm_wf {s : DevS} {ars : List (Int × List Int)} (hw : WfD s) (h : s.arms.length + ars.length ≤ 64) (hb : ars.any badA = false) (hk : ∀ x ∈ ars, x.1 ≤ 9223372036854775807 ∧ x.2.length ≤ 17592186044416 ∧ ∀ k ∈ x.2, k ≤ 9223372036854775807) : WfD { s with arms := s.arms ++ ars } := by
  rw [List.any_eq_false] at hb
  refine ⟨hw.pos, hw.top, hw.line, by simp; omega, fun x hx => ?_, fun x hx => ?_⟩
  · rcases List.mem_append.1 hx with h | h
    · exact hw.after x h
    · have := hb x h; simp [badA] at this
      exact ⟨by omega, (hk x h).1⟩
  · rcases List.mem_append.1 hx with h | h
    · exact hw.keeps x h
    · have := hb x h; simp [badA] at this
      exact ⟨(hk x h).2.1, fun k hm => ⟨low_nn this.2 k hm, (hk x h).2.2 k hm⟩⟩
theorem rdy00_t {n : Nat} {off : Bool} (h : rdy n off 0 0 ≠ 0) : off = true := by
  cases off with
  | true => rfl
  | false => rw [rdy00] at h; simp at h
theorem rdy00_f {n : Nat} {off : Bool} (h : rdy n off 0 0 = 0) : off = false := by
  cases off with
  | false => rfl
  | true => rw [rdy00] at h; simp at h
theorem any_take {α : Type} {p : α → Bool} {l : List α} {i : Nat} (h : (l.take i).any p = false) (hi : i < l.length) (hp : p l[i] = false) : (l.take (i + 1)).any p = false := by
  rw [List.take_succ_eq_append_getElem hi, List.any_append, h]; simp [hp]
theorem any_at {α : Type} {p : α → Bool} {l : List α} {i : Nat} (hi : i < l.length) (hp : p l[i] = true) : l.any p = true := by
  rw [List.any_eq_true]; exact ⟨l[i], List.getElem_mem hi, hp⟩
theorem ArmW_f (F : SP) {a : Option Addr} {c m d : Nat} {s : DevS} {kvs : List Value} {ars : List (Int × List Int)} (hr : RdA F a kvs ars) (hm : ars.length = m) (hl : m ≤ 17592186044416) (hk : ∀ x ∈ ars, (-9223372036854775808 ≤ x.1 ∧ x.1 ≤ 9223372036854775807) ∧ x.2.length ≤ 17592186044416 ∧ ∀ k ∈ x.2, k ≤ 9223372036854775807) :
    Fn Try.prog 44 #[.pointer (some ⟨d, 0, none⟩), .slice a m c] (F * Dev d s) (fun r B => r = .int .i64 (armS ars s).1 ∧ B = F * Dev d (armS ars s).2) := by
  refine fn_enterW (args := [.pointer (some ⟨d, 0, none⟩), .slice a m c]) Try.func44 rfl Try.ntmps44 (by simp) ?_
  refine tc_dev fun hw _ _ _ _ _ _ => ?_
  have hpos := hw.pos
  have htop := hw.top
  have ha64 := hw.arms
  refine tc_pre (dev_back hw ‹_› ‹_›) ?_
  have hrr : Rs F a (acs kvs ars) := hr.rd
  have hrl := acs_length hr.len
  refine tc_seq ?_
  refine tc_reg ?_
  refine tl_v rfl (o_assign (by conv => lhs; whnf)) ?_
  refine tl_nil ?_
  refine q_then_n ?_
  refine tc_seq ?_
  refine tc_seq ?_
  refine tc_reg ?_
  refine tl_v rfl (o_move (by conv => lhs; whnf)) ?_
  refine tl_c rfl (o_call bd88 rfl (ready_c)) ?_
  rintro _ _ ⟨rfl, rfl⟩
  refine tl_v rfl (o_assign (by conv => lhs; whnf)) ?_
  refine tl_nil ?_
  refine q_then_n ?_
  refine tc_seq ?_
  refine tc_reg ?_
  refine tl_v rfl (o_move (by conv => lhs; whnf)) ?_
  refine tl_v rfl (o_nei rfl rfl) ?_
  refine tl_nil ?_
  refine q_then_n ?_
  refine tc_cond rfl (fun h => ?_) (fun h => ?_)
  · have hoff := rdy00_t (by simpa using h)
    have hs : armS ars s = (5, s) := by unfold armS; rw [if_pos hoff]
    have hv : rdy s.ls.length s.off 0 0 = 5 := by rw [rdy00, if_pos hoff]
    refine tc_seq ?_
    refine tc_reg ?_
    refine tl_v rfl (o_move (by conv => lhs; whnf)) ?_
    refine tl_v rfl (o_assign (by conv => lhs; whnf)) ?_
    refine tl_nil ?_
    refine q_then_n ?_
    refine tc_ret ?_
    refine q_then_r ?_
    exact ⟨.int .i64 (rdy s.ls.length s.off 0 0), F * Dev d s, res1 rfl rfl, fun _ _ h => h, by rw [hs, hv], by rw [hs]⟩
  · have hoff := rdy00_f (by simpa using h)
    refine tc_skip ?_
    refine q_then_n ?_
    refine tc_seq ?_
    refine tc_seq ?_
    refine tc_reg ?_
    refine tl_v rfl (o_move (by conv => lhs; whnf)) ?_
    refine tl_v rfl (o_len Try.underlying74 rfl) ?_
    refine tl_v rfl (o_move (by conv => lhs; whnf)) ?_
    refine tl_nil ?_
    refine q_then_n ?_
    refine tc_block ?_
    refine tc_loop (fun kk ρ BB => ∃ (i : Nat), (i ≤ m) ∧ ((ars.take i).any badA = false) ∧ kk = m - i ∧ ρ 17 = .int .i64 (i : Nat) ∧ ρ 0 = .pointer (some ⟨d, 0, none⟩) ∧ ρ 1 = .slice a m c ∧ ρ 15 = .slice a m c ∧ ρ 16 = .int .i64 (m : Nat) ∧ BB = F * Dev d s) (m := m - (0)) ?_ ?_
    · exact ⟨0, by omega, rfl, rfl, rfl, rfl, rfl, rfl, rfl, rfl⟩
    · intro k ρ B hI
      obtain ⟨i, hp0, hp1, hkk1, hE17, hE0, hE1, hE15, hE16, rfl⟩ := hI
      refine tc_env (d := 17) hE17 ?_
      refine tc_env (d := 0) hE0 ?_
      refine tc_env (d := 1) hE1 ?_
      refine tc_env (d := 15) hE15 ?_
      refine tc_env (d := 16) hE16 ?_
      clear hE17 hE0 hE1 hE15 hE16
      refine tc_seq ?_
      refine tc_reg ?_
      refine tl_v rfl (o_lss rfl rfl) ?_
      refine tl_nil ?_
      refine q_then_n ?_
      refine tc_seq ?_
      refine tc_cond rfl (fun h => ?_) (fun h => ?_)
      · have hi : i < ars.length := by simp at h; omega
        obtain ⟨kb, kc, hkv, hkc, hkr⟩ := hr.keep i hi
        have hka := acs_at hr.len hi
        have hkv2 : kvs[i]'(by rw [hr.len]; exact hi) = .slice kb ars[i].2.length kc := by rw [List.getElem?_eq_getElem (by rw [hr.len]; exact hi)] at hkv; exact Option.some.inj hkv
        rw [hkv2] at hka
        have hke := hk _ (List.getElem_mem hi)
        refine tc_skip ?_
        refine q_then_n ?_
        refine tc_seq ?_
        refine tc_block ?_
        refine tc_seq ?_
        refine tc_reg ?_
        refine tl_v rfl (o_ixP Try.underlying74 sz72 rfl rfl (by first | omega | (simp only [bys_length, ints_length, wds_length, bos_length, List.length_append, List.length_take, List.length_drop, List.length_singleton]; omega)) (by repeat (first | exact nn_some | with_reducible exact nn_sl (by decide) | exact nn_rs (by assumption) (fun _ => by first | omega | (simp only [bys_length, ints_length, wds_length, bos_length, List.length_append, List.length_take, List.length_drop, List.length_singleton]; omega)) | apply Nn.left))) ?_
        refine tl_v rfl (o_ldPN (vs := [.int .i64 ars[i].1, .slice kb ars[i].2.length kc]) a72 sz72 rfl (by repeat (first | assumption | with_reducible exact rs_sl | with_reducible exact rs_pt0 | exact rs_none | apply Rs.left)) hka rfl (by decide)) ?_
        refine tl_x rfl (o_alloc z72 rfl) ?_
        rintro _ _ ⟨b7, rfl, rfl⟩
        refine tl_u rfl (o_stUN rfl upd_here sz72 rfl rfl rfl (by simp) rfl) ?_
        refine tl_nil ?_
        refine q_then_n ?_
        refine tc_seq ?_
        refine tc_reg ?_
        refine tl_v rfl (o_fieldAddr (o := 0) Try.underlying72 rfl rfl sz3 rfl) ?_
        refine tl_v rfl (by first | exact o_load p3 rfl (by repeat (first | with_reducible exact has_here | with_reducible exact has_pt | apply has_left)) rfl | exact o_loadC p3 rfl (by assumption)) ?_
        refine tl_v rfl (o_lss rfl rfl) ?_
        refine tl_v rfl (o_move (by conv => lhs; whnf)) ?_
        refine tl_bool (d := 24) rfl (fun h => ?_) (fun h => ?_)
        · try simp only [decide_eq_true_eq, decide_eq_false_iff_not, Bool.not_eq_true', Bool.not_eq_false', Option.isNone_some, Option.isNone_none, Bool.not_true, Bool.not_false] at h
          refine tl_skip rfl ?_
          refine tl_skip rfl ?_
          refine tl_skip rfl ?_
          refine tl_v rfl (o_pick_t rfl (by conv => lhs; whnf)) ?_
          refine tl_nil ?_
          refine q_then_n ?_
          refine tc_cond_t rfl ?_
          refine tc_seq ?_
          refine tc_reg ?_
          refine tl_v rfl (o_assign (by conv => lhs; whnf)) ?_
          refine tl_nil ?_
          refine q_then_n ?_
          refine tc_ret ?_
          refine q_block_r (q_then_r (q_then_r (q_block_r (q_then_r ?_))))
          have hs2 : armS ars s = (2, s) := by unfold armS; rw [if_neg (by rw [hoff]; decide), if_pos (any_at hi (by unfold badA; simp at h ⊢; first | exact h | exact .inl h | exact .inr h | omega))]
          exact ⟨.int .i64 2, F * Dev d s, res1 rfl rfl, Dr.sat (by repeat (first | with_reducible exact dr_refl | apply dr_keep | apply dr_drop)), by rw [hs2], by rw [hs2]⟩
        · try simp only [decide_eq_true_eq, decide_eq_false_iff_not, Bool.not_eq_true', Bool.not_eq_false', Option.isNone_some, Option.isNone_none, Bool.not_true, Bool.not_false] at h
          refine tl_v rfl (o_fieldAddr (o := 1) Try.underlying72 rfl rfl sz37 rfl) ?_
          refine tl_v rfl (by first | exact o_load p37 rfl (by repeat (first | with_reducible exact has_here | with_reducible exact has_pt | apply has_left)) rfl | exact o_loadC p37 rfl (by assumption)) ?_
          refine tl_c rfl (o_call bd91 rfl (low_c (xs := ars[i].2))) ?_
          rintro _ _ ⟨rfl, rfl⟩
          refine tl_v rfl (o_pick_f rfl (by conv => lhs; whnf)) ?_
          refine tl_nil ?_
          refine q_then_n ?_
          refine tc_cond rfl (fun h => ?_) (fun h => ?_)
          · try simp only [decide_eq_true_eq, decide_eq_false_iff_not, Bool.not_eq_true', Bool.not_eq_false', Option.isNone_some, Option.isNone_none, Bool.not_true, Bool.not_false] at h
            refine tc_seq ?_
            refine tc_reg ?_
            refine tl_v rfl (o_assign (by conv => lhs; whnf)) ?_
            refine tl_nil ?_
            refine q_then_n ?_
            refine tc_ret ?_
            refine q_block_r (q_then_r (q_then_r (q_block_r (q_then_r ?_))))
            have hs2 : armS ars s = (2, s) := by unfold armS; rw [if_neg (by rw [hoff]; decide), if_pos (any_at hi (by unfold badA; simp at h ⊢; first | exact h | exact .inl h | exact .inr h | omega))]
            exact ⟨.int .i64 2, F * Dev d s, res1 rfl rfl, Dr.sat (by repeat (first | with_reducible exact dr_refl | apply dr_keep | apply dr_drop)), by rw [hs2], by rw [hs2]⟩
          · have hbad : badA ars[i] = false := by unfold badA; rw [Bool.or_eq_false_iff]; exact ⟨by simp; omega, h⟩
            refine tc_skip ?_
            refine q_block_n (q_then_n ?_)
            refine tc_pre (Dr.sat (A' := F * Dev d s) (by repeat (first | with_reducible exact dr_refl | apply dr_keep | apply dr_drop))) ?_
            refine tc_reg ?_
            refine tl_v rfl (by first | exact o_addI rfl rfl (by omega) | exact o_add rfl rfl) ?_
            refine tl_v rfl (o_move (by conv => lhs; whnf)) ?_
            refine tl_nil ?_
            refine q_then_n ?_
            exact ⟨_, by omega, i + 1, by omega, any_take hp1 hi hbad, rfl, rfl, rfl, rfl, rfl, rfl, rfl⟩
      · try simp only [decide_eq_true_eq, decide_eq_false_iff_not, Bool.not_eq_true', Bool.not_eq_false', Option.isNone_some, Option.isNone_none, Bool.not_true, Bool.not_false] at h
        refine tc_exit ?_
        refine q_then_e (q_then_e (q_block_x (q_then_n ?_)))
        refine tc_seq ?_
        refine tc_seq ?_
        refine tc_reg ?_
        refine tl_v rfl (o_move (by conv => lhs; whnf)) ?_
        refine tl_v rfl (o_len Try.underlying74 rfl) ?_
        refine tl_v rfl (o_move (by conv => lhs; whnf)) ?_
        obtain rfl : m = i := by omega
        have hnb : ars.any badA = false := by rwa [List.take_of_length_le (by omega)] at hp1
        refine tl_dev fun hw1 bl svs av kvs1 hsv hkv => ?_
        refine tl_have (fun _ _ h => devC_arms h) fun ⟨aa, ca, hav, _⟩ => ?_
        subst hav
        refine tl_v rfl (o_nilCheck rfl) ?_
        refine tl_v rfl (o_fieldAddr (o := 2) Try.underlying97 rfl rfl sz74 rfl) ?_
        refine tl_v rfl (o_load p74 rfl devC_d rfl) ?_
        refine tl_v rfl (o_len Try.underlying74 rfl) ?_
        refine tl_v rfl (by first | exact o_addI rfl rfl (by omega) | exact o_add rfl rfl) ?_
        refine tl_v rfl (o_gtr rfl rfl) ?_
        refine tl_pre (dev_back hw1 hsv hkv) ?_
        refine tl_nil ?_
        refine q_then_n ?_
        refine tc_cond rfl (fun h => ?_) (fun h => ?_)
        · try simp only [decide_eq_true_eq, decide_eq_false_iff_not, Bool.not_eq_true', Bool.not_eq_false', Option.isNone_some, Option.isNone_none, Bool.not_true, Bool.not_false] at h
          refine tc_seq ?_
          refine tc_reg ?_
          refine tl_v rfl (o_assign (by conv => lhs; whnf)) ?_
          refine tl_nil ?_
          refine q_then_n ?_
          refine tc_ret ?_
          refine q_then_r ?_
          have hs2 : armS ars s = (4, s) := by unfold armS; rw [if_neg (by rw [hoff]; decide), if_neg (by rw [hnb]; decide), if_pos (by omega)]
          exact ⟨.int .i64 4, F * Dev d s, res1 rfl rfl, Dr.sat (by repeat (first | with_reducible exact dr_refl | apply dr_keep | apply dr_drop)), by rw [hs2], by rw [hs2]⟩
        · try simp only [decide_eq_true_eq, decide_eq_false_iff_not, Bool.not_eq_true', Bool.not_eq_false', Option.isNone_some, Option.isNone_none, Bool.not_true, Bool.not_false] at h
          refine tc_skip ?_
          refine q_then_n ?_
          refine tc_seq ?_
          refine tc_seq ?_
          refine tc_reg ?_
          have hfit : ars.length + s.arms.length ≤ 64 := by omega
          refine tl_v rfl (o_move (by conv => lhs; whnf)) ?_
          refine tl_v rfl (o_len Try.underlying74 rfl) ?_
          refine tl_v rfl (o_move (by conv => lhs; whnf)) ?_
          refine tl_nil ?_
          refine q_then_n ?_
          refine tc_block ?_
          refine tc_loop (fun kk ρ BB => ∃ (i : Nat), (i ≤ m) ∧ kk = m - i ∧ ρ 41 = .int .i64 (i : Nat) ∧ ρ 0 = .pointer (some ⟨d, 0, none⟩) ∧ ρ 39 = .slice a m c ∧ ρ 40 = .int .i64 (m : Nat) ∧ BB = F * Dev d { s with arms := s.arms ++ ars.take i }) (m := m - (0)) ?_ ?_
          · exact ⟨0, by omega, rfl, rfl, rfl, rfl, rfl, by rw [List.take_zero, List.append_nil]⟩
          · intro k ρ B hI
            obtain ⟨i, hp0, hkk2, hE41, hE0, hE39, hE40, rfl⟩ := hI
            refine tc_env (d := 41) hE41 ?_
            refine tc_env (d := 0) hE0 ?_
            refine tc_env (d := 39) hE39 ?_
            refine tc_env (d := 40) hE40 ?_
            clear hE41 hE0 hE39 hE40
            refine tc_seq ?_
            refine tc_reg ?_
            refine tl_v rfl (o_lss rfl rfl) ?_
            refine tl_nil ?_
            refine q_then_n ?_
            refine tc_seq ?_
            refine tc_cond rfl (fun h => ?_) (fun h => ?_)
            · have hi : i < ars.length := by simp at h; omega
              obtain ⟨kb, kc, hkv, hkc, hkr⟩ := hr.keep i hi
              have hka := acs_at hr.len hi
              have hkv2 : kvs[i]'(by rw [hr.len]; exact hi) = .slice kb ars[i].2.length kc := by rw [List.getElem?_eq_getElem (by rw [hr.len]; exact hi)] at hkv; exact Option.some.inj hkv
              rw [hkv2] at hka
              have hke := hk _ (List.getElem_mem hi)
              refine tc_skip ?_
              refine q_then_n ?_
              refine tc_seq ?_
              refine tc_block ?_
              refine tc_seq ?_
              refine tc_reg ?_
              refine tl_v rfl (o_ixP Try.underlying74 sz72 rfl rfl (by first | omega | (simp only [bys_length, ints_length, wds_length, bos_length, List.length_append, List.length_take, List.length_drop, List.length_singleton]; omega)) (by repeat (first | exact nn_some | with_reducible exact nn_sl (by decide) | exact nn_rs (by assumption) (fun _ => by first | omega | (simp only [bys_length, ints_length, wds_length, bos_length, List.length_append, List.length_take, List.length_drop, List.length_singleton]; omega)) | apply Nn.left))) ?_
              refine tl_v rfl (o_ldPN (vs := [.int .i64 ars[i].1, .slice kb ars[i].2.length kc]) a72 sz72 rfl (by repeat (first | assumption | with_reducible exact rs_sl | with_reducible exact rs_pt0 | exact rs_none | apply Rs.left)) hka rfl (by decide)) ?_
              refine tl_x rfl (o_alloc z72 rfl) ?_
              rintro _ _ ⟨b9, rfl, rfl⟩
              refine tl_u rfl (o_stUN (l' := [.int .i64 ars[i].1, .slice kb ars[i].2.length kc]) rfl upd_here sz72 rfl rfl rfl (by simp) rfl) ?_
              refine tl_nil ?_
              refine q_then_n ?_
              rw [star_swap]
              refine tc_dev fun hw2 bl svs av kvs2 hsv hkv3 => ?_
              refine tc_have (fun _ _ h => devC_arms h) fun ⟨aa, ca, hav, _⟩ => ?_
              subst hav
              refine tc_eq devC_open ?_
              rw [star_swap, star_swap _ _ (pt d _), star_swap _ _ (pt bl _)]
              refine tc_regh (S := F * pt b9 (cl [.int .i64 ars[i].1, .slice kb ars[i].2.length kc] 72) * KeepsR kvs2 (s.arms ++ ars.take i)) mo (by repeat (first | with_reducible exact dr_refl | apply dr_keep | apply dr_drop)) ?_
              show TH _ _ _ _ _ 16 #[false, false, false, false, false, false, false, false, false, false, false, false, false, false, false, false] _ _
              refine th_take (i := 0) (listed' := #[true, false, false, false, false, false, false, false, false, false, false, false, false, false, false, false]) rfl (by kernel_rfl) (by kernel_rfl) (by kernel_rfl) rfl rfl (o_move (by conv => lhs; whnf)) ?_
              refine th_take (i := 1) (listed' := #[true, true, false, false, false, false, false, false, false, false, false, false, false, false, false, false]) rfl (by kernel_rfl) (by kernel_rfl) (by kernel_rfl) rfl rfl (o_move (by conv => lhs; whnf)) ?_
              refine th_take (i := 2) (listed' := #[true, true, true, false, false, false, false, false, false, false, false, false, false, false, false, false]) rfl (by kernel_rfl) (by kernel_rfl) (by kernel_rfl) rfl rfl (o_nilCheck rfl) ?_
              refine th_take (i := 3) (listed' := #[true, true, true, true, false, false, false, false, false, false, false, false, false, false, false, false]) rfl (by kernel_rfl) (by kernel_rfl) (by kernel_rfl) rfl rfl (o_fieldAddr (o := 2) Try.underlying97 rfl rfl sz74 rfl) ?_
              refine th_take (i := 5) (listed' := #[true, true, true, true, false, true, false, false, false, false, false, false, false, false, false, false]) rfl (by kernel_rfl) (by kernel_rfl) (by kernel_rfl) rfl rfl (o_fieldAddr (o := 0) Try.underlying72 rfl rfl sz3 rfl) ?_
              refine th_take (i := 6) (listed' := #[true, true, true, true, false, true, true, false, false, false, false, false, false, false, false, false]) rfl (by kernel_rfl) (by kernel_rfl) (by kernel_rfl) rfl rfl (by first | exact o_load p3 rfl (by repeat (first | with_reducible exact has_here | with_reducible exact has_pt | apply has_left)) rfl | exact o_loadC p3 rfl (by assumption)) ?_
              refine th_take (i := 7) (listed' := #[true, true, true, true, false, true, true, true, false, false, false, false, false, false, false, false]) rfl (by kernel_rfl) (by kernel_rfl) (by kernel_rfl) rfl rfl (o_fieldAddr (o := 1) Try.underlying72 rfl rfl sz37 rfl) ?_
              refine th_take (i := 8) (listed' := #[true, true, true, true, false, true, true, true, true, false, false, false, false, false, false, false]) rfl (by kernel_rfl) (by kernel_rfl) (by kernel_rfl) rfl rfl (by first | exact o_load p37 rfl (by repeat (first | with_reducible exact has_here | with_reducible exact has_pt | apply has_left)) rfl | exact o_loadC p37 rfl (by assumption)) ?_
              refine th_two (i := 4) (j := 9) (by kernel_rfl) ?_ ?_
              · skip
                refine oh_v (i := 4) (listed' := #[true, true, true, true, true, true, true, true, true, false, false, false, false, false, false, false]) rfl rfl rfl (o_load p74 rfl (by repeat (first | with_reducible exact has_here | with_reducible exact has_pt | apply has_left)) rfl) ?_
                refine th_one (i := 9) (by kernel_rfl) ?_
                refine oh_c (i := 9) (listed' := #[true, true, true, true, true, true, true, true, true, true, false, false, false, false, false, false]) rfl rfl rfl (o_call bd100 rfl (CloneI_c (xs := ints ars[i].2))) ?_
                rintro _ _ ⟨a54, c54, rfl, hc54, rfl⟩
                refine ⟨by repeat (first | with_reducible exact dr_refl | apply dr_keep | apply dr_drop), ?_⟩
                refine th_take (i := 10) (listed' := #[true, true, true, true, true, true, true, true, true, true, true, false, false, false, false, false]) rfl (by kernel_rfl) (by kernel_rfl) (by kernel_rfl) rfl rfl (o_bS (l := [_, _]) (pv_cons (by conv => lhs; whnf) (pv_cons (by conv => lhs; whnf) pv_nil)) Try.underlying72 z72 (pl72 Try.underlying72) rfl) ?_
                refine th_one (i := 11) (by kernel_rfl) ?_
                refine oh_x (i := 11) (listed' := #[true, true, true, true, true, true, true, true, true, true, true, true, false, false, false, false]) rfl rfl rfl (o_buildSliceK Try.underlying74 sz72 z72 rfl (by first | rfl | simp) (by decide)) ?_
                rintro _ _ ⟨b56, rfl, rfl⟩
                refine ⟨by repeat (first | with_reducible exact dr_refl | apply dr_keep | apply dr_drop), ?_⟩
                refine th_one (i := 12) (by kernel_rfl) ?_
                refine oh_x (i := 12) (listed' := #[true, true, true, true, true, true, true, true, true, true, true, true, true, false, false, false]) rfl rfl rfl (o_apB Try.underlying74 Try.underlying74 sz72 by72 z72 rfl (by decide) (by decide) rfl rfl rfl (by repeat (first | with_reducible exact ct_here | apply ct_left)) rfl (by first | exact bys_all _ | exact ints_all _ | exact wds_all _ | exact bos_all _ | rfl) (by first | omega | (simp only [bys_length, ints_length, wds_length, bos_length, List.length_append, List.length_take, List.length_drop, List.length_singleton]; omega)) (by first | exact bys_sn _ _ | exact ints_sn _ _ | exact wds_sn _ _ | exact bos_sn _ _ | exact (bys_append _ _).symm | rfl)) ?_
                rintro _ _ ⟨a57, c57, rfl, hc57, rfl⟩
                refine ⟨by repeat (first | with_reducible exact dr_refl | apply dr_keep | apply dr_drop), ?_⟩
                refine th_take (i := 13) (listed' := #[true, true, true, true, true, true, true, true, true, true, true, true, true, true, false, false]) rfl (by kernel_rfl) (by kernel_rfl) (by kernel_rfl) rfl rfl (o_nilCheck rfl) ?_
                refine th_take (i := 14) (listed' := #[true, true, true, true, true, true, true, true, true, true, true, true, true, true, true, false]) rfl (by kernel_rfl) (by kernel_rfl) (by kernel_rfl) rfl rfl (o_fieldAddr (o := 2) Try.underlying97 rfl rfl sz74 rfl) ?_
                refine th_one (i := 15) (by kernel_rfl) ?_
                refine oh_u (i := 15) (listed' := #[true, true, true, true, true, true, true, true, true, true, true, true, true, true, true, true]) rfl rfl rfl (o_stU (l' := dcs bl s.ls.length { s with arms := s.arms ++ ars.take i } (.slice a57 ((s.arms ++ ars.take i).length + 1) c57)) rfl (by repeat (first | with_reducible exact upd_here | with_reducible exact upd_pt | apply upd_left)) sz74 rfl rfl (by show 2 < 5; decide) rfl) (by repeat (first | with_reducible exact dr_refl | apply dr_keep | apply dr_drop)) ?_
                refine th_done (by kernel_rfl) ?_
                refine q_block_n (q_then_n ?_)
                have hw3 : WfD { { s with arms := s.arms ++ ars.take i } with arms := { s with arms := s.arms ++ ars.take i }.arms ++ [ars[i]] } := by
                  show WfD { s with arms := (s.arms ++ ars.take i) ++ [ars[i]] }
                  rw [List.append_assoc, ← List.take_succ_eq_append_getElem hi]
                  exact arm_wf hw (by rw [List.length_take]; omega) (by rw [List.any_eq_false] at hnb ⊢; exact fun x hx => hnb x (List.mem_of_mem_take hx)) (fun x hx => by have := hk x (List.mem_of_mem_take hx); exact ⟨this.1.2, this.2⟩)
                refine tc_pre (A' := F * Dev d { { s with arms := s.arms ++ ars.take i } with arms := { s with arms := s.arms ++ ars.take i }.arms ++ [ars[i]] }) (fun _ _ h => arm_back (F := F) (d := d) (bl := bl) (J := pt b9 (cl [.int .i64 ars[i].1, .slice kb ars[i].2.length kc] 72)) (v := .slice a54 ars[i].2.length c54) (av := .slice a57 ((s.arms ++ ars.take i).length + 1) c57) hw3 hsv hkv3 (h.perm (by first | rfl | ac_rfl))) ?_
                refine tc_reg ?_
                refine tl_v rfl (by first | exact o_addI rfl rfl (by omega) | exact o_add rfl rfl) ?_
                refine tl_v rfl (o_move (by conv => lhs; whnf)) ?_
                refine tl_nil ?_
                refine q_then_n ?_
                exact ⟨_, by omega, i + 1, by omega, rfl, rfl, rfl, rfl, rfl, by rw [List.take_succ_eq_append_getElem hi, ← List.append_assoc]⟩
              · skip
                refine oh_c (i := 9) (listed' := #[true, true, true, true, false, true, true, true, true, true, false, false, false, false, false, false]) rfl rfl rfl (o_call bd100 rfl (CloneI_c (xs := ints ars[i].2))) ?_
                rintro _ _ ⟨a54, c54, rfl, hc54, rfl⟩
                refine ⟨by repeat (first | with_reducible exact dr_refl | apply dr_keep | apply dr_drop), ?_⟩
                refine th_take (i := 10) (listed' := #[true, true, true, true, false, true, true, true, true, true, true, false, false, false, false, false]) rfl (by kernel_rfl) (by kernel_rfl) (by kernel_rfl) rfl rfl (o_bS (l := [_, _]) (pv_cons (by conv => lhs; whnf) (pv_cons (by conv => lhs; whnf) pv_nil)) Try.underlying72 z72 (pl72 Try.underlying72) rfl) ?_
                refine th_two (i := 4) (j := 11) (by kernel_rfl) ?_ ?_
                · skip
                  refine oh_v (i := 4) (listed' := #[true, true, true, true, true, true, true, true, true, true, true, false, false, false, false, false]) rfl rfl rfl (o_load p74 rfl (by repeat (first | with_reducible exact has_here | with_reducible exact has_pt | apply has_left)) rfl) ?_
                  refine th_one (i := 11) (by kernel_rfl) ?_
                  refine oh_x (i := 11) (listed' := #[true, true, true, true, true, true, true, true, true, true, true, true, false, false, false, false]) rfl rfl rfl (o_buildSliceK Try.underlying74 sz72 z72 rfl (by first | rfl | simp) (by decide)) ?_
                  rintro _ _ ⟨b56, rfl, rfl⟩
                  refine ⟨by repeat (first | with_reducible exact dr_refl | apply dr_keep | apply dr_drop), ?_⟩
                  refine th_one (i := 12) (by kernel_rfl) ?_
                  refine oh_x (i := 12) (listed' := #[true, true, true, true, true, true, true, true, true, true, true, true, true, false, false, false]) rfl rfl rfl (o_apB Try.underlying74 Try.underlying74 sz72 by72 z72 rfl (by decide) (by decide) rfl rfl rfl (by repeat (first | with_reducible exact ct_here | apply ct_left)) rfl (by first | exact bys_all _ | exact ints_all _ | exact wds_all _ | exact bos_all _ | rfl) (by first | omega | (simp only [bys_length, ints_length, wds_length, bos_length, List.length_append, List.length_take, List.length_drop, List.length_singleton]; omega)) (by first | exact bys_sn _ _ | exact ints_sn _ _ | exact wds_sn _ _ | exact bos_sn _ _ | exact (bys_append _ _).symm | rfl)) ?_
                  rintro _ _ ⟨a57, c57, rfl, hc57, rfl⟩
                  refine ⟨by repeat (first | with_reducible exact dr_refl | apply dr_keep | apply dr_drop), ?_⟩
                  refine th_take (i := 13) (listed' := #[true, true, true, true, true, true, true, true, true, true, true, true, true, true, false, false]) rfl (by kernel_rfl) (by kernel_rfl) (by kernel_rfl) rfl rfl (o_nilCheck rfl) ?_
                  refine th_take (i := 14) (listed' := #[true, true, true, true, true, true, true, true, true, true, true, true, true, true, true, false]) rfl (by kernel_rfl) (by kernel_rfl) (by kernel_rfl) rfl rfl (o_fieldAddr (o := 2) Try.underlying97 rfl rfl sz74 rfl) ?_
                  refine th_one (i := 15) (by kernel_rfl) ?_
                  refine oh_u (i := 15) (listed' := #[true, true, true, true, true, true, true, true, true, true, true, true, true, true, true, true]) rfl rfl rfl (o_stU (l' := dcs bl s.ls.length { s with arms := s.arms ++ ars.take i } (.slice a57 ((s.arms ++ ars.take i).length + 1) c57)) rfl (by repeat (first | with_reducible exact upd_here | with_reducible exact upd_pt | apply upd_left)) sz74 rfl rfl (by show 2 < 5; decide) rfl) (by repeat (first | with_reducible exact dr_refl | apply dr_keep | apply dr_drop)) ?_
                  refine th_done (by kernel_rfl) ?_
                  refine q_block_n (q_then_n ?_)
                  have hw3 : WfD { { s with arms := s.arms ++ ars.take i } with arms := { s with arms := s.arms ++ ars.take i }.arms ++ [ars[i]] } := by
                    show WfD { s with arms := (s.arms ++ ars.take i) ++ [ars[i]] }
                    rw [List.append_assoc, ← List.take_succ_eq_append_getElem hi]
                    exact arm_wf hw (by rw [List.length_take]; omega) (by rw [List.any_eq_false] at hnb ⊢; exact fun x hx => hnb x (List.mem_of_mem_take hx)) (fun x hx => by have := hk x (List.mem_of_mem_take hx); exact ⟨this.1.2, this.2⟩)
                  refine tc_pre (A' := F * Dev d { { s with arms := s.arms ++ ars.take i } with arms := { s with arms := s.arms ++ ars.take i }.arms ++ [ars[i]] }) (fun _ _ h => arm_back (F := F) (d := d) (bl := bl) (J := pt b9 (cl [.int .i64 ars[i].1, .slice kb ars[i].2.length kc] 72)) (v := .slice a54 ars[i].2.length c54) (av := .slice a57 ((s.arms ++ ars.take i).length + 1) c57) hw3 hsv hkv3 (h.perm (by first | rfl | ac_rfl))) ?_
                  refine tc_reg ?_
                  refine tl_v rfl (by first | exact o_addI rfl rfl (by omega) | exact o_add rfl rfl) ?_
                  refine tl_v rfl (o_move (by conv => lhs; whnf)) ?_
                  refine tl_nil ?_
                  refine q_then_n ?_
                  exact ⟨_, by omega, i + 1, by omega, rfl, rfl, rfl, rfl, rfl, by rw [List.take_succ_eq_append_getElem hi, ← List.append_assoc]⟩
                · skip
                  refine oh_x (i := 11) (listed' := #[true, true, true, true, false, true, true, true, true, true, true, true, false, false, false, false]) rfl rfl rfl (o_buildSliceK Try.underlying74 sz72 z72 rfl (by first | rfl | simp) (by decide)) ?_
                  rintro _ _ ⟨b56, rfl, rfl⟩
                  refine ⟨by repeat (first | with_reducible exact dr_refl | apply dr_keep | apply dr_drop), ?_⟩
                  refine th_one (i := 4) (by kernel_rfl) ?_
                  refine oh_v (i := 4) (listed' := #[true, true, true, true, true, true, true, true, true, true, true, true, false, false, false, false]) rfl rfl rfl (o_load p74 rfl (by repeat (first | with_reducible exact has_here | with_reducible exact has_pt | apply has_left)) rfl) ?_
                  refine th_one (i := 12) (by kernel_rfl) ?_
                  refine oh_x (i := 12) (listed' := #[true, true, true, true, true, true, true, true, true, true, true, true, true, false, false, false]) rfl rfl rfl (o_apB Try.underlying74 Try.underlying74 sz72 by72 z72 rfl (by decide) (by decide) rfl rfl rfl (by repeat (first | with_reducible exact ct_here | apply ct_left)) rfl (by first | exact bys_all _ | exact ints_all _ | exact wds_all _ | exact bos_all _ | rfl) (by first | omega | (simp only [bys_length, ints_length, wds_length, bos_length, List.length_append, List.length_take, List.length_drop, List.length_singleton]; omega)) (by first | exact bys_sn _ _ | exact ints_sn _ _ | exact wds_sn _ _ | exact bos_sn _ _ | exact (bys_append _ _).symm | rfl)) ?_
                  rintro _ _ ⟨a57, c57, rfl, hc57, rfl⟩
                  refine ⟨by repeat (first | with_reducible exact dr_refl | apply dr_keep | apply dr_drop), ?_⟩
                  refine th_take (i := 13) (listed' := #[true, true, true, true, true, true, true, true, true, true, true, true, true, true, false, false]) rfl (by kernel_rfl) (by kernel_rfl) (by kernel_rfl) rfl rfl (o_nilCheck rfl) ?_
                  refine th_take (i := 14) (listed' := #[true, true, true, true, true, true, true, true, true, true, true, true, true, true, true, false]) rfl (by kernel_rfl) (by kernel_rfl) (by kernel_rfl) rfl rfl (o_fieldAddr (o := 2) Try.underlying97 rfl rfl sz74 rfl) ?_
                  refine th_one (i := 15) (by kernel_rfl) ?_
                  refine oh_u (i := 15) (listed' := #[true, true, true, true, true, true, true, true, true, true, true, true, true, true, true, true]) rfl rfl rfl (o_stU (l' := dcs bl s.ls.length { s with arms := s.arms ++ ars.take i } (.slice a57 ((s.arms ++ ars.take i).length + 1) c57)) rfl (by repeat (first | with_reducible exact upd_here | with_reducible exact upd_pt | apply upd_left)) sz74 rfl rfl (by show 2 < 5; decide) rfl) (by repeat (first | with_reducible exact dr_refl | apply dr_keep | apply dr_drop)) ?_
                  refine th_done (by kernel_rfl) ?_
                  refine q_block_n (q_then_n ?_)
                  have hw3 : WfD { { s with arms := s.arms ++ ars.take i } with arms := { s with arms := s.arms ++ ars.take i }.arms ++ [ars[i]] } := by
                    show WfD { s with arms := (s.arms ++ ars.take i) ++ [ars[i]] }
                    rw [List.append_assoc, ← List.take_succ_eq_append_getElem hi]
                    exact arm_wf hw (by rw [List.length_take]; omega) (by rw [List.any_eq_false] at hnb ⊢; exact fun x hx => hnb x (List.mem_of_mem_take hx)) (fun x hx => by have := hk x (List.mem_of_mem_take hx); exact ⟨this.1.2, this.2⟩)
                  refine tc_pre (A' := F * Dev d { { s with arms := s.arms ++ ars.take i } with arms := { s with arms := s.arms ++ ars.take i }.arms ++ [ars[i]] }) (fun _ _ h => arm_back (F := F) (d := d) (bl := bl) (J := pt b9 (cl [.int .i64 ars[i].1, .slice kb ars[i].2.length kc] 72)) (v := .slice a54 ars[i].2.length c54) (av := .slice a57 ((s.arms ++ ars.take i).length + 1) c57) hw3 hsv hkv3 (h.perm (by first | rfl | ac_rfl))) ?_
                  refine tc_reg ?_
                  refine tl_v rfl (by first | exact o_addI rfl rfl (by omega) | exact o_add rfl rfl) ?_
                  refine tl_v rfl (o_move (by conv => lhs; whnf)) ?_
                  refine tl_nil ?_
                  refine q_then_n ?_
                  exact ⟨_, by omega, i + 1, by omega, rfl, rfl, rfl, rfl, rfl, by rw [List.take_succ_eq_append_getElem hi, ← List.append_assoc]⟩
            · try simp only [decide_eq_true_eq, decide_eq_false_iff_not, Bool.not_eq_true', Bool.not_eq_false', Option.isNone_some, Option.isNone_none, Bool.not_true, Bool.not_false] at h
              refine tc_exit ?_
              refine q_then_e (q_then_e (q_block_x (q_then_n ?_)))
              refine tc_seq ?_
              refine tc_reg ?_
              refine tl_v rfl (o_assign (by conv => lhs; whnf)) ?_
              refine tl_nil ?_
              refine q_then_n ?_
              refine tc_ret ?_
              obtain rfl : m = i := by omega
              have hs2 : armS ars s = (0, { s with arms := s.arms ++ ars }) := by unfold armS; rw [if_neg (by rw [hoff]; decide), if_neg (by rw [hnb]; decide), if_neg (by omega)]
              rw [List.take_of_length_le (show ars.length ≤ m by omega)]
              exact ⟨.int .i64 0, F * Dev d { s with arms := s.arms ++ ars }, res1 rfl rfl, Dr.sat (by repeat (first | with_reducible exact dr_refl | apply dr_keep | apply dr_drop)), by rw [hs2], by rw [hs2]⟩
theorem Arm_c {A R : SP} {C : SP → SP} {d : Nat} {s : DevS} (hc : Ct A (Dev d s) R C := by repeat (first | with_reducible exact ct_here | apply ct_left)) {a : Option Addr} {c m : Nat} {kvs : List Value} {ars : List (Int × List Int)} (hr : RdA R a kvs ars) (hm : ars.length = m := by first | assumption | rfl) (hl : m ≤ 17592186044416 := by omega)
    (hk : ∀ x ∈ ars, (-9223372036854775808 ≤ x.1 ∧ x.1 ≤ 9223372036854775807) ∧ x.2.length ≤ 17592186044416 ∧ ∀ k ∈ x.2, k ≤ 9223372036854775807) :
    Fn Try.prog 44 #[.pointer (some ⟨d, 0, none⟩), .slice a m c] A (fun r B => ∃ e s2, armS ars s = (e, s2) ∧ r = .int .i64 e ∧ B = C (Dev d s2)) := by
  obtain ⟨rfl, hC⟩ := hc
  exact (ArmW_f R hr hm hl hk).mono fun _ _ h => ⟨(armS ars s).1, (armS ars s).2, rfl, h.1, by rw [hC]; exact h.2⟩
end Go.Vl

set_option linter.unusedVariables false
set_option linter.unusedSimpArgs false
namespace Go.Vl
open Go Go.Proofs
theorem Size_c {A R : SP} {C : SP → SP} {d : Nat} {s : DevS} (hc : Ct A (Dev d s) R C := by repeat (first | with_reducible exact ct_here | apply ct_left)) : Fn Try.prog 94 #[.pointer (some ⟨d, 0, none⟩)] A (fun r B => r = .int .i64 ((s.ls.length : Int) * 64) ∧ A = B) := by
  obtain ⟨rfl, hC⟩ := hc
  exact fn_devR0 fun _ A bl svs av hR => Size_f A d bl s.ls.length s av hR.d hR.wf.pos hR.wf.top
/-- Lines of which the first are copied. -/
def cpB (ws : List Value) (ls : List LineS) (i : Nat) : List Value := lcs (ws ++ List.replicate (ls.length - i) (.slice none 0 0)) (ls.take i ++ List.replicate (ls.length - i) ⟨[], 0⟩)
end Go.Vl

set_option linter.unusedVariables false
set_option linter.unusedSimpArgs false
namespace Go.Vl
open Go Go.Proofs
def stE (s : DevS) : Int := if s.off = true then 5 else 0
theorem stE_rdy (s : DevS) (h : s.off = true) : rdy s.ls.length s.off 0 0 = 5 := by unfold rdy; rw [if_pos h]
theorem Load0_c {A R : SP} {C : SP → SP} {d : Nat} {s : DevS} (hc : Ct A (Dev d s) R C) : Fn Try.prog 27 #[.pointer (some ⟨d, 0, none⟩), .int .i64 0, .int .i64 0] A (fun r B => ∃ v : Value, r = .tuple #[v, .int .i64 (stE s)] ∧ A = B) := by
  by_cases h : s.off = true
  · have e : stE s = 5 := if_pos h
    have := LoadNo_c hc (p := 0) (m := 0) (by omega) (by omega) (by rw [stE_rdy s h]; decide)
    rw [stE_rdy s h] at this
    rw [e]
    exact this.mono fun _ _ ⟨h1, h2⟩ => ⟨_, h1, h2⟩
  · have e : stE s = 0 := if_neg h
    rw [e]
    intro g w hs
    refine (Load_c hc (p := 0) (m := 0) (by simpa using h) (by omega) g w hs).mono ?_
    rintro e w' ⟨v, B, rfl, ⟨a, c, rfl, _, rfl⟩, hB⟩
    exact ⟨_, _, rfl, ⟨_, rfl, rfl⟩, hB.left⟩
attribute [local irreducible] crk crL crc Sl pt ro mbs sbB planT Dev
theorem alive_c {A R : SP} {C : SP → SP} {d : Nat} {s : DevS} (hc : Ct A (Dev d s) R C := by repeat (first | with_reducible exact ct_here | apply ct_left)) :
    Fn Try.prog 119 #[.pointer (some ⟨d, 0, none⟩)] (A) (fun r B => r = .int .i64 (stE s) ∧ A = B) := by
  refine fn_enterW (args := [.pointer (some ⟨d, 0, none⟩)]) Try.func119 rfl Try.ntmps119 (by simp) ?_
  refine tc_seq ?_
  refine tc_reg ?_
  refine tl_v rfl (o_assign (by conv => lhs; whnf)) ?_
  refine tl_nil ?_
  refine q_then_n ?_
  refine tc_seq ?_
  refine tc_reg ?_
  refine tl_v rfl (o_move (by conv => lhs; whnf)) ?_
  refine tl_c rfl (o_call bd27 rfl (Load0_c hc)) ?_
  rintro _ _ ⟨v7, rfl, rfl⟩
  refine tl_v rfl (o_move (by conv => lhs; whnf)) ?_
  refine tl_v rfl (o_extract rfl rfl) ?_
  refine tl_v rfl (o_extract rfl rfl) ?_
  refine tl_v rfl (o_assign (by conv => lhs; whnf)) ?_
  refine tl_v rfl (o_assign (by conv => lhs; whnf)) ?_
  refine tl_nil ?_
  refine q_then_n ?_
  refine tc_seq ?_
  refine tc_reg ?_
  refine tl_v rfl (o_move (by conv => lhs; whnf)) ?_
  refine tl_v rfl (o_assign (by conv => lhs; whnf)) ?_
  refine tl_nil ?_
  refine q_then_n ?_
  refine tc_ret ?_
  exact ⟨.int .i64 (stE s), A, res1 rfl rfl, fun _ _ h => h, rfl, rfl⟩
theorem Range0_c {A R : SP} {C : SP → SP} {d : Nat} {s : DevS} (hc : Ct A (Dev d s) R C := by repeat (first | with_reducible exact ct_here | apply ct_left)) {at_ : Int} :
    Fn Try.prog 60 #[.pointer (some ⟨d, 0, none⟩), .int .i64 at_, .int .i64 0] (A) (fun r B => r = .int .i64 (stE s) ∧ A = B) := by
  refine fn_enterW (args := [.pointer (some ⟨d, 0, none⟩), .int .i64 at_, .int .i64 0]) Try.func60 rfl Try.ntmps60 (by simp) ?_
  refine tc_seq ?_
  refine tc_reg ?_
  refine tl_v rfl (o_assign (by conv => lhs; whnf)) ?_
  refine tl_nil ?_
  refine q_then_n ?_
  refine tc_seq ?_
  refine tc_seq ?_
  refine tc_reg ?_
  refine tl_v rfl (o_move (by conv => lhs; whnf)) ?_
  refine tl_c rfl (o_call bd119 rfl (alive_c hc)) ?_
  rintro _ _ ⟨rfl, rfl⟩
  refine tl_v rfl (o_assign (by conv => lhs; whnf)) ?_
  refine tl_nil ?_
  refine q_then_n ?_
  refine tc_seq ?_
  refine tc_reg ?_
  refine tl_v rfl (o_move (by conv => lhs; whnf)) ?_
  refine tl_v rfl (o_nei rfl rfl) ?_
  refine tl_nil ?_
  refine q_then_n ?_
  refine tc_cond rfl (fun h => ?_) (fun h => ?_)
  · try simp only [decide_eq_true_eq, decide_eq_false_iff_not, Bool.not_eq_true', Bool.not_eq_false', Option.isNone_some, Option.isNone_none, Bool.not_true, Bool.not_false] at h
    refine tc_seq ?_
    refine tc_reg ?_
    refine tl_v rfl (o_move (by conv => lhs; whnf)) ?_
    refine tl_v rfl (o_assign (by conv => lhs; whnf)) ?_
    refine tl_nil ?_
    refine q_then_n ?_
    refine tc_ret ?_
    refine q_then_r ?_
    first | exact ⟨.int .i64 (stE s), A, res1 rfl rfl, fun _ _ h => h, rfl, rfl⟩ | exact ⟨.int .i64 0, A, res1 rfl rfl, fun _ _ h => h, by rw [h0], rfl⟩
  · have h0 : stE s = 0 := by simpa using h
    refine tc_skip ?_
    refine q_then_n ?_
    refine tc_seq ?_
    refine tc_seq ?_
    refine tc_reg ?_
    refine tl_v rfl (o_move (by conv => lhs; whnf)) ?_
    refine tl_v rfl (o_lss rfl rfl) ?_
    refine tl_nil ?_
    refine q_then_n ?_
    refine tc_cond rfl (fun h => ?_) (fun h => ?_)
    · try simp only [decide_eq_true_eq, decide_eq_false_iff_not, Bool.not_eq_true', Bool.not_eq_false', Option.isNone_some, Option.isNone_none, Bool.not_true, Bool.not_false] at h
      refine tc_seq ?_
      refine tc_reg ?_
      refine tl_v rfl (o_assign (by conv => lhs; whnf)) ?_
      refine tl_nil ?_
      refine q_then_n ?_
      refine tc_ret ?_
      refine q_then_r ?_
      first | exact ⟨.int .i64 (stE s), A, res1 rfl rfl, fun _ _ h => h, rfl, rfl⟩ | exact ⟨.int .i64 0, A, res1 rfl rfl, fun _ _ h => h, by rw [h0], rfl⟩
    · (exfalso; first | (revert h; simp; done) | (simp at h; done) | (revert h; simp; omega) | (simp at h; omega) | omega)
theorem state_c {A R : SP} {C : SP → SP} {d : Nat} {s : DevS} (hc : Ct A (Dev d s) R C := by repeat (first | with_reducible exact ct_here | apply ct_left)) :
    Fn Try.prog 102 #[.pointer (some ⟨d, 0, none⟩)] (A) (fun r B => r = .int .i64 (stE s) ∧ A = B) := by
  refine fn_enterW (args := [.pointer (some ⟨d, 0, none⟩)]) Try.func102 rfl Try.ntmps102 (by simp) ?_
  refine tc_seq ?_
  refine tc_reg ?_
  refine tl_v rfl (o_assign (by conv => lhs; whnf)) ?_
  refine tl_nil ?_
  refine q_then_n ?_
  refine tc_seq ?_
  refine tc_reg ?_
  refine tl_v rfl (o_move (by conv => lhs; whnf)) ?_
  refine tl_c rfl (o_call bd60 rfl (Range0_c hc)) ?_
  rintro _ _ ⟨rfl, rfl⟩
  refine tl_v rfl (o_assign (by conv => lhs; whnf)) ?_
  refine tl_nil ?_
  refine q_then_n ?_
  refine tc_ret ?_
  exact ⟨.int .i64 (stE s), A, res1 rfl rfl, fun _ _ h => h, rfl, rfl⟩
end Go.Vl

set_option linter.unusedVariables false
set_option linter.unusedSimpArgs false
namespace Go.Vl
open Go Go.Proofs
theorem bys_eq (s : List Nat) : bys s = (s.map fun n : Nat => (n : Int)).map (Value.int .u8) := by rw [bys, List.map_map]; rfl
section
variable {P : Program} {n : Nat} {ρ : Env} {dst : Option Nat} {ty : TypeId} {pos : String} {after : Array Edge} {gd : Option (Nat × Bool)} {A : SP}
theorem o_nearrB {t t' e : TypeId} {x y : Operand} {len : Nat} {xs ys : List Nat} (hu : P.underlying t = some (.array len e)) (hk : szE P e = some 1) (he : P.underlying e = some (.int .u8)) (hp : plainE P e = true)
    (hge : P.eqGuardType P.depth t = false) (hx : ev n ρ x = .agg (bys xs).toArray) (hy : ev n ρ y = .agg (bys ys).toArray) (h1 : xs.length = len) (h2 : ys.length = len) :
    OpV P n ρ A ⟨dst, .binOp .neq t x y t', ty, pos, after, gd⟩ (.bool (!decide (xs = ys))) := by
  have := o_nearr (A := A) (dst := dst) (ty := ty) (pos := pos) (after := after) (gd := gd) (t' := t') hu hk he hp hge (by rw [hx, bys_eq]) (by rw [hy, bys_eq]) (by rw [List.length_map, h1]) (by rw [List.length_map, h2])
  rwa [show decide ((xs.map fun n : Nat => (n : Int)) = (ys.map fun n : Nat => (n : Int))) = decide (xs = ys) from by simp only [map_inj]] at this
end
def rdT (n : Nat) (I : List Nat) : List Int × Int := if I.take 64 = sbB [n, 128, 32768, 32896, (n - 32896) / 256, 0] then ([(n : Int), ((128 : Nat) : Int), ((32768 : Nat) : Int), ((32896 : Nat) : Int), (((n - 32896) / 256 : Nat) : Int)], 0) else ([0, 0, 0, 0, 0], 100)
theorem rdT_t {n : Nat} {I : List Nat} (h : I.take 64 = sbB [n, 128, 32768, 32896, (n - 32896) / 256, 0]) : rdT n I = ([(n : Int), ((128 : Nat) : Int), ((32768 : Nat) : Int), ((32896 : Nat) : Int), (((n - 32896) / 256 : Nat) : Int)], 0) := if_pos h
theorem rdT_f {n : Nat} {I : List Nat} (h : I.take 64 ≠ sbB [n, 128, 32768, 32896, (n - 32896) / 256, 0]) : rdT n I = ([0, 0, 0, 0, 0], 100) := if_neg h
attribute [local irreducible] crk crL crc Sl pt ro mbs sbB planT Dev imgS
set_option maxRecDepth 20000 in
set_option maxHeartbeats 1000000 in
theorem Read_ok {A R : SP} {C : SP → SP} {d : Nat} {s : DevS} (hc : Ct A (Dev d s) R C := by repeat (first | with_reducible exact ct_here | apply ct_left)) {n : Nat} (hoff : s.off = false) (hlen : s.ls.length * 64 = n) (hn : 36992 ≤ n ∧ n ≤ 4194304 ∧ n % 64 = 0) (hil : (imgS s).length = n) :
    Fn Try.prog 48 #[.pointer (some ⟨d, 0, none⟩)] (A) (fun r B => r = .tuple #[.agg (ints (rdT n (imgS s)).1).toArray, .int .i64 (rdT n (imgS s)).2] ∧ A = B) := by
  refine fn_enterW (args := [.pointer (some ⟨d, 0, none⟩)]) Try.func48 rfl Try.ntmps48 (by simp) ?_
  have hst : stE s = 0 := by unfold stE; rw [hoff]; rfl
  obtain ⟨rfl, hC⟩ := hc
  refine tc_seq ?_
  refine tc_reg ?_
  refine tl_x rfl (o_alloc z23 rfl) ?_
  rintro _ _ ⟨b2, rfl, rfl⟩
  refine tl_v rfl (o_assign (by conv => lhs; whnf)) ?_
  refine tl_nil ?_
  refine q_then_n ?_
  refine tc_seq ?_
  refine tc_seq ?_
  refine tc_reg ?_
  refine tl_v rfl (o_move (by conv => lhs; whnf)) ?_
  refine tl_c rfl (o_call bd102 rfl (state_c (s := s))) ?_
  rintro _ _ ⟨rfl, rfl⟩
  refine tl_env (d := 9) (v := .int .i64 0) (congrArg (Value.int .i64) hst) ?_
  refine tl_v rfl (o_assign (by conv => lhs; whnf)) ?_
  refine tl_nil ?_
  refine q_then_n ?_
  refine tc_seq ?_
  refine tc_reg ?_
  refine tl_v rfl (o_move (by conv => lhs; whnf)) ?_
  refine tl_v rfl (o_nei rfl rfl) ?_
  refine tl_nil ?_
  refine q_then_n ?_
  refine tc_cond rfl (fun h => ?_) (fun h => ?_)
  · exfalso; simp at h
  · try simp only [decide_eq_true_eq, decide_eq_false_iff_not, Bool.not_eq_true', Bool.not_eq_false', Option.isNone_some, Option.isNone_none, Bool.not_true, Bool.not_false] at h
    refine tc_skip ?_
    refine q_then_n ?_
    refine tc_seq ?_
    refine tc_reg ?_
    refine tl_v rfl (o_move (by conv => lhs; whnf)) ?_
    refine tl_c rfl (o_call bd94 rfl (Size_c (s := s))) ?_
    rintro _ _ ⟨rfl, rfl⟩
    refine tl_env (d := 16) (v := .int .i64 (n : Int)) (congrArg (Value.int .i64) (by omega)) ?_
    refine tl_c rfl (o_call bd18 rfl (Plan_ok hn)) ?_
    rintro _ _ ⟨rfl, rfl⟩
    refine tl_v rfl (o_move (by conv => lhs; whnf)) ?_
    refine tl_v rfl (o_extract rfl rfl) ?_
    refine tl_v rfl (o_extract rfl rfl) ?_
    refine tl_x rfl (o_alloc z23 rfl) ?_
    rintro _ _ ⟨b5, rfl, rfl⟩
    refine tl_u rfl (o_stUN (l' := ints [(n : Int), ((128 : Nat) : Int), ((32768 : Nat) : Int), ((32896 : Nat) : Int), (((n - 32896) / 256 : Nat) : Int)]) rfl (by repeat (first | with_reducible exact upd_here | with_reducible exact upd_pt | apply upd_left)) sz23 rfl rfl rfl (by simp) rfl) ?_
    refine tl_v rfl (o_assign (by conv => lhs; whnf)) ?_
    refine tl_nil ?_
    refine q_then_n ?_
    refine tc_seq ?_
    refine tc_seq ?_
    refine tc_reg ?_
    refine tl_v rfl (o_move (by conv => lhs; whnf)) ?_
    refine tl_v rfl (o_nei rfl rfl) ?_
    refine tl_nil ?_
    refine q_then_n ?_
    refine tc_cond rfl (fun h => ?_) (fun h => ?_)
    · exfalso; simp at h
    · try simp only [decide_eq_true_eq, decide_eq_false_iff_not, Bool.not_eq_true', Bool.not_eq_false', Option.isNone_some, Option.isNone_none, Bool.not_true, Bool.not_false] at h
      refine tc_skip ?_
      refine q_then_n ?_
      refine tc_seq ?_
      refine tc_reg ?_
      refine tl_v rfl (o_move (by conv => lhs; whnf)) ?_
      refine tl_c rfl (o_call bd27 rfl (Load_c (s := s) (p := 0) (m := 64) (hoff := hoff) (hpm := by omega))) ?_
      rintro _ _ ⟨a25, c25, rfl, hc25, rfl⟩
      refine tl_have (fun g w h => nn_sl (by decide) g w h (by decide)) fun ⟨b25, o25, e25⟩ => ?_
      subst e25
      have hI : ((imgS s).take 64).length = 64 := by rw [List.length_take]; omega
      refine tl_v rfl (o_move (by conv => lhs; whnf)) ?_
      refine tl_v rfl (o_extract rfl rfl) ?_
      refine tl_v rfl (o_extract rfl rfl) ?_
      refine tl_v rfl (o_assign (by conv => lhs; whnf)) ?_
      refine tl_v rfl (o_assign (by conv => lhs; whnf)) ?_
      refine tl_nil ?_
      refine q_then_n ?_
      refine tc_seq ?_
      refine tc_seq ?_
      refine tc_regh mo dr_refl ?_
      show TH _ _ _ _ _ 10 #[false, false, false, false, false, false, false, false, false, false] _ _
      refine th_take (i := 0) (listed' := #[true, false, false, false, false, false, false, false, false, false]) rfl (by kernel_rfl) (by kernel_rfl) (by kernel_rfl) rfl rfl (o_move (by conv => lhs; whnf)) ?_
      refine th_take (i := 1) (listed' := #[true, true, false, false, false, false, false, false, false, false]) rfl (by kernel_rfl) (by kernel_rfl) (by kernel_rfl) rfl rfl (o_nei rfl rfl) ?_
      refine th_take (i := 2) (listed' := #[true, true, true, false, false, false, false, false, false, false]) rfl (by kernel_rfl) (by kernel_rfl) (by kernel_rfl) rfl rfl (o_move (by conv => lhs; whnf)) ?_
      refine th_bool (d := 30) rfl (fun h => ?_) (fun h => ?_)
      · (exfalso; first | (revert h; simp; done) | (simp at h; done) | (revert h; simp; omega) | (simp at h; omega) | omega)
      · try simp only [decide_eq_true_eq, decide_eq_false_iff_not, Bool.not_eq_true', Bool.not_eq_false', Option.isNone_some, Option.isNone_none, Bool.not_true, Bool.not_false] at h
        refine th_take (i := 3) (listed' := #[true, true, true, true, false, false, false, false, false, false]) rfl (by kernel_rfl) (by kernel_rfl) (by kernel_rfl) rfl rfl (o_move (by conv => lhs; whnf)) ?_
        refine th_take (i := 4) (listed' := #[true, true, true, true, true, false, false, false, false, false]) rfl (by kernel_rfl) (by kernel_rfl) (by kernel_rfl) rfl rfl (o_s2a (m := 64) Try.underlying139 rfl (by decide)) ?_
        refine th_take (i := 5) (listed' := #[true, true, true, true, true, true, false, false, false, false]) rfl (by kernel_rfl) (by kernel_rfl) (by kernel_rfl) rfl rfl (o_ldPN (a := some ⟨b25, o25, none⟩) (i := 0) (vs := bys ((imgS s).take 64)) a139 sz139 rfl rs_sl (by rw [List.drop_zero, List.drop_zero]; exact List.take_of_length_le (by rw [bys_length, hI]; decide)) (by rw [bys_length, hI]) (by decide)) ?_
        refine th_take (i := 6) (listed' := #[true, true, true, true, true, true, true, false, false, false]) rfl (by kernel_rfl) (by kernel_rfl) (by kernel_rfl) rfl rfl (o_loadN (vs := ints [(n : Int), ((128 : Nat) : Int), ((32768 : Nat) : Int), ((32896 : Nat) : Int), (((n - 32896) / 256 : Nat) : Int)]) a23 sz23 rfl (by repeat (first | with_reducible exact has_here | with_reducible exact has_pt | apply has_left)) (by show 5 ≤ 5; decide) rfl) ?_
        refine th_one (i := 7) (by kernel_rfl) ?_
        refine oh_c (i := 7) (listed' := #[true, true, true, true, true, true, true, true, false, false]) rfl rfl rfl (o_call bd83 rfl (laid_c (by omega))) ?_
        rintro _ _ ⟨rfl, rfl⟩
        refine ⟨by repeat (first | with_reducible exact dr_refl | apply dr_keep | apply dr_drop), ?_⟩
        refine th_take (i := 8) (listed' := #[true, true, true, true, true, true, true, true, true, false]) rfl (by kernel_rfl) (by kernel_rfl) (by kernel_rfl) rfl rfl (o_nearrB (xs := (imgS s).take 64) (ys := sbB [n, 128, 32768, 32896, (n - 32896) / 256, 0]) Try.underlying139 sz5 Try.underlying5 p5 (by kernel_rfl) rfl rfl hI (sbB_len rfl)) ?_
        refine th_take (i := 9) (listed' := #[true, true, true, true, true, true, true, true, true, true]) rfl (by kernel_rfl) (by kernel_rfl) (by kernel_rfl) rfl rfl (o_pick_f rfl (by conv => lhs; whnf)) ?_
        refine th_done (by kernel_rfl) ?_
        refine q_then_n ?_
        refine tc_cond rfl (fun h => ?_) (fun h => ?_)
        · try simp only [decide_eq_true_eq, decide_eq_false_iff_not, Bool.not_eq_true', Bool.not_eq_false', Option.isNone_some, Option.isNone_none, Bool.not_true, Bool.not_false] at h
          refine tc_seq ?_
          refine tc_reg ?_
          refine tl_v rfl (o_bS (l := ints [0, 0, 0, 0, 0]) pv_nil Try.underlying23 z23 (pl23 Try.underlying23) rfl) ?_
          refine tl_u rfl (o_stUN (l' := ints [0, 0, 0, 0, 0]) rfl (by repeat (first | with_reducible exact upd_here | with_reducible exact upd_pt | apply upd_left)) sz23 rfl rfl rfl (by simp) rfl) ?_
          refine tl_v rfl (o_assign (by conv => lhs; whnf)) ?_
          refine tl_nil ?_
          refine q_then_n ?_
          refine tc_ret ?_
          refine q_then_r ?_
          first
          | (have hp := rdT_t (n := n) (I := imgS s) (by simpa using h); rw [hp]; exact ⟨.tuple #[.agg (ints [(n : Int), ((128 : Nat) : Int), ((32768 : Nat) : Int), ((32896 : Nat) : Int), (((n - 32896) / 256 : Nat) : Int)]).toArray, .int .i64 0], R * Dev d s, resA2 rfl (rv_cell a23 sz23 rfl (by repeat (first | with_reducible exact has_here | with_reducible exact has_pt | apply has_left)) (by show 5 ≤ 5; decide) rfl) (rv_tmp rfl), Dr.sat (by repeat (first | with_reducible exact dr_refl | apply dr_keep | apply dr_drop)), rfl, rfl⟩)
          | (have hp := rdT_f (n := n) (I := imgS s) (by simpa using h); rw [hp]; exact ⟨.tuple #[.agg (ints [0, 0, 0, 0, 0]).toArray, .int .i64 100], R * Dev d s, resA2 rfl (rv_cell a23 sz23 rfl (by repeat (first | with_reducible exact has_here | with_reducible exact has_pt | apply has_left)) (by show 5 ≤ 5; decide) rfl) (rv_tmp rfl), Dr.sat (by repeat (first | with_reducible exact dr_refl | apply dr_keep | apply dr_drop)), rfl, rfl⟩)
        · try simp only [decide_eq_true_eq, decide_eq_false_iff_not, Bool.not_eq_true', Bool.not_eq_false', Option.isNone_some, Option.isNone_none, Bool.not_true, Bool.not_false] at h
          refine tc_skip ?_
          refine q_then_n ?_
          refine tc_seq ?_
          refine tc_reg ?_
          refine tl_v rfl (o_loadN (vs := ints [(n : Int), ((128 : Nat) : Int), ((32768 : Nat) : Int), ((32896 : Nat) : Int), (((n - 32896) / 256 : Nat) : Int)]) a23 sz23 rfl (by repeat (first | with_reducible exact has_here | with_reducible exact has_pt | apply has_left)) (by show 5 ≤ 5; decide) rfl) ?_
          refine tl_u rfl (o_stUN (l' := ints [(n : Int), ((128 : Nat) : Int), ((32768 : Nat) : Int), ((32896 : Nat) : Int), (((n - 32896) / 256 : Nat) : Int)]) rfl (by repeat (first | with_reducible exact upd_here | with_reducible exact upd_pt | apply upd_left)) sz23 rfl rfl rfl (by simp) rfl) ?_
          refine tl_v rfl (o_assign (by conv => lhs; whnf)) ?_
          refine tl_nil ?_
          refine q_then_n ?_
          refine tc_ret ?_
          first
          | (have hp := rdT_t (n := n) (I := imgS s) (by simpa using h); rw [hp]; exact ⟨.tuple #[.agg (ints [(n : Int), ((128 : Nat) : Int), ((32768 : Nat) : Int), ((32896 : Nat) : Int), (((n - 32896) / 256 : Nat) : Int)]).toArray, .int .i64 0], R * Dev d s, resA2 rfl (rv_cell a23 sz23 rfl (by repeat (first | with_reducible exact has_here | with_reducible exact has_pt | apply has_left)) (by show 5 ≤ 5; decide) rfl) (rv_tmp rfl), Dr.sat (by repeat (first | with_reducible exact dr_refl | apply dr_keep | apply dr_drop)), rfl, rfl⟩)
          | (have hp := rdT_f (n := n) (I := imgS s) (by simpa using h); rw [hp]; exact ⟨.tuple #[.agg (ints [0, 0, 0, 0, 0]).toArray, .int .i64 100], R * Dev d s, resA2 rfl (rv_cell a23 sz23 rfl (by repeat (first | with_reducible exact has_here | with_reducible exact has_pt | apply has_left)) (by show 5 ≤ 5; decide) rfl) (rv_tmp rfl), Dr.sat (by repeat (first | with_reducible exact dr_refl | apply dr_keep | apply dr_drop)), rfl, rfl⟩)
end Go.Vl

set_option linter.unusedVariables false
set_option linter.unusedSimpArgs false
namespace Go.Vl.Rg
open Go
/-- Of what make the frame is: a function's, or a round's. -/
class Rm where
  r : Option Nat
def Fc (μ : Rm) : Fence := { Fence.wide with round := μ.r }
/-- The blocks of the deferred calls of loops that were begun: the frame keeps them behind its last slot. -/
def blk : Value → Nat
  | .int _ i => i.toNat
  | _ => 0
def mks : Value → List Nat
  | .tuple vs => vs.toList.map blk
  | _ => []
def mkv (rs : List Nat) : Value := .tuple (rs.map fun r : Nat => Value.int .i64 (r : Int)).toArray
theorem mks_mkv (rs : List Nat) : mks (mkv rs) = rs := by
  simp only [mkv, mks, List.map_map]
  induction rs with
  | nil => rfl
  | cons r rs ih => rw [List.map_cons, ih]; rfl
def mark (r : Nat) : Deferred := { target := .collected r, args := #[] }
def mkO : Obj := .deferred (some [])
structure Agr (n : Nat) (ρ : Env) (a : Act) : Prop where
  df : a.defers = (mks (ρ n)).map mark
  sz : a.tmps.size = n
  ev : ∀ t, t < n → a.tmps.getD t undef = ρ t
def put (n : Nat) (ρ : Env) : Option Tmp → Value → Env
  | some d, v => bif Nat.blt d n then upd ρ d v else ρ
  | none, _ => ρ
theorem Agr.plain {n : Nat} {ρ : Env} {a : Act} (h : Agr n ρ a) : Vl.Agr n ρ { a with defers := [] } := ⟨rfl, h.sz, h.ev⟩
theorem Agr.eval {n : Nat} {ρ : Env} {a : Act} (h : Agr n ρ a) : a.eval = Vl.ev n ρ := by
  rw [← h.plain.eval]; rfl
theorem Agr.put {n : Nat} {ρ : Env} {a : Act} (h : Agr n ρ a) (d : Option Tmp) (v : Value) : Agr n (Rg.put n ρ d v) (a.put d v) := by
  cases d with
  | none => exact h
  | some d =>
    simp only [Rg.put]
    cases hb : Nat.blt d n with
    | true =>
      have hlt := Nat.blt_eq.mp hb
      have := h.plain.put (some d) v
      refine ⟨?_, this.sz, this.ev⟩
      have hn : Nat.beq n d = false := by
        cases hb : Nat.beq n d with
        | false => rfl
        | true => have := Nat.eq_of_beq_eq_true hb; omega
      simp only [Act.put, cond_true, upd, hn, cond_false]
      exact h.df
    | false =>
      have hge : n ≤ d := by
        rcases Nat.lt_or_ge d n with hlt | hge
        · rw [Nat.blt_eq.mpr hlt] at hb; cases hb
        · exact hge
      refine ⟨h.df, by simp [Act.put, h.sz], fun t ht => ?_⟩
      simp only [Act.put, cond_false]
      rw [← h.ev t ht, Array.getD_eq_getD_getElem?, Array.getElem?_setIfInBounds, if_neg (by omega), Array.getD_eq_getD_getElem?]
def lift (g : Gh) (n : Nat) (Q : Post) : Exit → Act → World → Prop := fun e a w => okE e = true ∧ ∃ ρ A, Agr n ρ a ∧ sat g w A ∧ Q e ρ A
def TC [μ : Rm] (P : Program) (n : Nat) (c : Code) (Q : Post) (ρ : Env) (A : SP) : Prop :=
  ∀ g a w, Agr n ρ a → sat g w A → c.wpIn (Fc μ) 0 P (lift g n Q) a w
def TL [μ : Rm] (P : Program) (n : Nat) (ops : Array Oper) (Q : Post) (l : List Oper) (ρ : Env) (A : SP) : Prop :=
  ∀ g a w, Agr n ρ a → sat g w A → wpListIn (Fc μ) 0 P ops (lift g n Q) l a w
/-- A call of yield: what it hands back, and what holds of memory behind it. -/
def Yd (P : Program) (l : Nat) (args : Array Value) (A : SP) (Q : Value → SP → Prop) : Prop :=
  ∀ g w, sat g w A → ∃ f tmps assign body, (Instr.yield l args).run P w = .ok (.round l f tmps assign body) w ∧
    RoundIn Fence.wide 0 P l f tmps assign body w fun e w' => ∃ v B, e = .returned v ∧ Q v B ∧ sat g w' B
theorem Yd.mono {P : Program} {l : Nat} {args : Array Value} {A : SP} {Q Q' : Value → SP → Prop} (h : Yd P l args A Q) (k : ∀ v B, Q v B → Q' v B) : Yd P l args A Q' := fun g w hs =>
  let ⟨f, t, a, b, hy, hr⟩ := h g w hs
  ⟨f, t, a, b, hy, hr.mono fun _ _ ⟨v, B, e, q, s⟩ => ⟨v, B, e, k v B q, s⟩⟩
theorem Yd.pre {P : Program} {l : Nat} {args : Array Value} {A A' : SP} {Q : Value → SP → Prop} (h : Yd P l args A Q) (k : ∀ g w, sat g w A' → sat g w A) : Yd P l args A' Q := fun g w hs => h g w (k g w hs)
section
variable {μ : Rm} {P : Program} {n : Nat} {Q : Post} {ρ : Env} {A : SP}
theorem tc_imp {c : Code} {Q' : Post} (h : TC P n c Q ρ A) (k : ∀ e ρ A, Q e ρ A → Q' e ρ A) : TC P n c Q' ρ A :=
  fun g a w ha hs => wpIn_mono (h g a w ha hs) fun _ _ _ ⟨o, ρ, A, x, y, z⟩ => ⟨o, ρ, A, x, y, k _ _ _ z⟩
theorem tc_pre {c : Code} {A' : SP} (k : ∀ g w, sat g w A → sat g w A') (h : TC P n c Q ρ A') : TC P n c Q ρ A :=
  fun g a w ha hs => h g a w ha (k g w hs)
theorem tc_eq {c : Code} {A' : SP} (k : A = A') (h : TC P n c Q ρ A') : TC P n c Q ρ A := k ▸ h
theorem tc_env {c : Code} {d : Nat} {v : Value} (h : ρ d = v) (k : TC P n c Q (upd ρ d v) A) : TC P n c Q ρ A := by
  rw [← env_set h] at k; exact k
theorem tc_have {c : Code} {p : Prop} (k : ∀ g w, sat g w A → p) (h : p → TC P n c Q ρ A) : TC P n c Q ρ A :=
  fun g a w ha hs => h (k g w hs) g a w ha hs
theorem tc_seq {x y : Code} (h : TC P n x (thenQ (TC P n y Q) Q) ρ A) : TC P n (x.seq y) Q ρ A := fun g a w ha hs =>
  wpIn_seq (wpIn_mono (h g a w ha hs) fun e a' w' ⟨hok, ρ', A', ha', hs', hq⟩ => by
    cases e with
    | normal => exact hq g a' w' ha' hs'
    | _ => exact ⟨hok, ρ', A', ha', hs', hq⟩)
theorem tc_skip (h : Q .normal ρ A) : TC P n .skip Q ρ A := fun g a w ha hs => wpIn_skip ⟨rfl, ρ, A, ha, hs, h⟩
theorem tc_ret (h : Q .ret ρ A) : TC P n .ret Q ρ A := fun g a w ha hs => wpIn_ret ⟨rfl, ρ, A, ha, hs, h⟩
theorem tc_exit {id : Nat} (h : Q (.exit id) ρ A) : TC P n (.exit id) Q ρ A := fun g a w ha hs => wpIn_exit ⟨rfl, ρ, A, ha, hs, h⟩
theorem tc_block {id : Nat} {c : Code} (h : TC P n c (blockQ id Q) ρ A) : TC P n (.block id c) Q ρ A := fun g a w ha hs =>
  wpIn_block (wpIn_mono (h g a w ha hs) fun e a' w' ⟨hok, ρ', A', ha', hs', hq⟩ => by
    cases e with
    | exit k =>
      simp only [Exit.inBlock]
      by_cases hk : k = id
      · subst hk
        simp only [blockQ, Nat.beq_refl, cond_true] at hq
        rw [if_pos rfl]; exact ⟨rfl, ρ', A', ha', hs', hq⟩
      · have : Nat.beq k id = false := by
          cases hb : Nat.beq k id with
          | false => rfl
          | true => exact absurd (Nat.eq_of_beq_eq_true hb) hk
        simp only [blockQ, this, cond_false] at hq
        rw [if_neg hk]; exact ⟨rfl, ρ', A', ha', hs', hq⟩
    | _ => exact ⟨hok, ρ', A', ha', hs', hq⟩)
theorem tc_cond {c : Operand} {x y : Code} {t : Bool} (hc : ev n ρ c = .bool t) (h1 : t = true → TC P n x Q ρ A) (h2 : t = false → TC P n y Q ρ A) : TC P n (.cond c x y) Q ρ A := fun g a w ha hs => by
  refine wpIn_cond (t := t) (by rw [ha.eval]; exact hc) ?_
  cases t with
  | true => exact h1 rfl g a w ha hs
  | false => exact h2 rfl g a w ha hs
theorem tc_cond_t {c : Operand} {x y : Code} (hc : ev n ρ c = .bool true) (h : TC P n x Q ρ A) : TC P n (.cond c x y) Q ρ A := tc_cond hc (fun _ => h) (fun e => by cases e)
theorem tc_cond_f {c : Operand} {x y : Code} (hc : ev n ρ c = .bool false) (h : TC P n y Q ρ A) : TC P n (.cond c x y) Q ρ A := tc_cond hc (fun e => by cases e) (fun _ => h)
theorem tc_cut {c : Code} (M : Env → SP → Prop) (h : TC P n c (fun e ρ' A' => match e with | .normal => M ρ' A' | e => Q e ρ' A') ρ A) (k : ∀ ρ' A', M ρ' A' → Q .normal ρ' A') : TC P n c Q ρ A :=
  tc_imp h fun e ρ' A' hq => by
    cases e with
    | normal => exact k _ _ hq
    | _ => exact hq
theorem tc_loop {c : Code} (I : Nat → Env → SP → Prop) {m : Nat} (h0 : I m ρ A)
    (round : ∀ k ρ A, I k ρ A → TC P n c (thenQ (fun ρ' A' => ∃ k', k' < k ∧ I k' ρ' A') Q) ρ A) : TC P n (.loop c) Q ρ A := fun g a w ha hs b kk cs hro hb hr => by
  have key : ∀ k ρ A, I k ρ A → ∀ a w, Agr n ρ a → sat g w A → ∃ e a' w', lift g n Q e a' w' ∧ ArrivesIn (Machine.fenced P (Fc μ)) P (lone (b.atR a (.code c :: .inLoop c :: kk)) cs w) b kk cs e a' w' := by
    intro k
    induction k using Nat.strongRecOn with
    | _ k ih =>
      intro ρ A hI a w ha hs
      obtain ⟨e, a₁, w₁, ⟨hok, ρ₁, A₁, ha₁, hs₁, hq⟩, harr⟩ := round k ρ A hI g a w ha hs b (.inLoop c :: kk) cs hro hb hr
      cases e with
      | normal =>
        obtain ⟨k', hlt, hI'⟩ := hq
        obtain ⟨e₂, a₂, w₂, hq₂, harr₂⟩ := ih k' hlt ρ₁ A₁ hI' a₁ w₁ ha₁ hs₁
        exact ⟨e₂, a₂, w₂, hq₂, .of_steps (StepsIn.trans harr (.one (fenced_calm hb hr rfl) stepR_inLoop)) harr₂⟩
      | exit id => exact ⟨_, a₁, w₁, ⟨hok, ρ₁, A₁, ha₁, hs₁, hq⟩, .pass (x := .inLoop c) rfl (fun _ _ => .inl (by simp)) harr⟩
      | goto l => exact ⟨_, a₁, w₁, ⟨hok, ρ₁, A₁, ha₁, hs₁, hq⟩, .pass (x := .inLoop c) rfl (fun _ _ => .inl (by simp)) harr⟩
      | ret => exact ⟨_, a₁, w₁, ⟨hok, ρ₁, A₁, ha₁, hs₁, hq⟩, .pass (x := .inLoop c) rfl (fun _ _ => .inl (by simp)) harr⟩
      | panic ch => exact ⟨_, a₁, w₁, ⟨hok, ρ₁, A₁, ha₁, hs₁, hq⟩, .pass (x := .inLoop c) rfl (fun _ _ => .inl (by simp)) harr⟩
      | outgrown => exact ⟨_, a₁, w₁, ⟨hok, ρ₁, A₁, ha₁, hs₁, hq⟩, .pass (x := .inLoop c) rfl (fun _ _ => .inl (by simp)) harr⟩
  obtain ⟨e, a', w', hq, harr⟩ := key m ρ A h0 a w ha hs
  exact ⟨e, a', w', hq, .of_steps (.one (fenced_calm hb hr rfl) stepR_loop) harr⟩
/-! ### Operations -/
theorem want_eq {ops : Array Oper} {a : Act} {o : Oper} (ha : Agr n ρ a) : Region.wanted o (yielded ops a.tmps) = wantE n ops ρ o := by
  have := Vl.want_eq (ops := ops) (o := o) ha.plain
  exact this
theorem sem_eq {ro : Option Nat} {e : Operand → Value} {o : Oper} {w w' : World} {x : Next} (h : (execOp e o).run P w = .ok x w') (hd : ∀ d, x ≠ .defer d) : (Oper.semAt ro e o).run P w = .ok x w' := by
  cases ro with
  | none => exact h
  | some l =>
    by_cases hc : ∃ c, o.op = .defer c
    · exfalso
      obtain ⟨c, hc⟩ := hc
      unfold execOp at h
      rw [hc] at h
      simp only [] at h
      rw [Sem.run_bind] at h
      cases hr : (resolve e c o.type).run P w with
      | ok d w1 => rw [hr] at h; simp [Result.andThen, pure, Sem.run] at h; exact hd d h.1.symm
      | halt x w1 => rw [hr] at h; simp [Result.andThen] at h
    · rw [Oper.semAt_eq _ _ _ fun c e => hc ⟨c, e⟩]; exact h
section
variable {ops : Array Oper} {o : Oper} {rest : List Oper}
theorem tl_nil (h : Q .normal ρ A) : TL P n ops Q [] ρ A := fun g a w ha hs => wpListIn_nil ⟨rfl, ρ, A, ha, hs, h⟩
theorem tl_eq {A' : SP} {l : List Oper} (k : A = A') (h : TL P n ops Q l ρ A') : TL P n ops Q l ρ A := k ▸ h
theorem tl_pre {A' : SP} {l : List Oper} (k : ∀ g w, sat g w A → sat g w A') (h : TL P n ops Q l ρ A') : TL P n ops Q l ρ A := fun g a w ha hs => h g a w ha (k g w hs)
theorem tl_env {l : List Oper} {d : Nat} {v : Value} (h : ρ d = v) (k : TL P n ops Q l (upd ρ d v) A) : TL P n ops Q l ρ A := by
  rw [← env_set h] at k; exact k
theorem tl_have {l : List Oper} {p : Prop} (k : ∀ g w, sat g w A → p) (h : p → TL P n ops Q l ρ A) : TL P n ops Q l ρ A := fun g a w ha hs => h (k g w hs) g a w ha hs
theorem tl_bool {l : List Oper} {d : Nat} {b : Bool} (hv : ρ d = .bool b) (ht : b = true → TL P n ops Q l (upd ρ d (.bool true)) A) (hf : b = false → TL P n ops Q l (upd ρ d (.bool false)) A) : TL P n ops Q l ρ A := by
  cases b with
  | true => exact tl_env hv (ht rfl)
  | false => exact tl_env hv (hf rfl)
theorem tl_skip (hw : wantE n ops ρ o = false) (k : TL P n ops Q rest (put n ρ o.dst undef) A) : TL P n ops Q (o :: rest) ρ A := fun g a w ha hs => by
  unfold wpListIn
  rw [want_eq ha, hw]
  exact ⟨fun _ _ => trivial, k g _ w (ha.put _ _) hs⟩
theorem tl_v {v : Value} (hw : wantE n ops ρ o = true) (h : OpV P n ρ A o v) (k : TL P n ops Q rest (put n ρ o.dst v) A) : TL P n ops Q (o :: rest) ρ A := fun g a w ha hs => by
  unfold wpListIn
  rw [want_eq ha, hw, if_pos rfl]
  refine ⟨fun _ _ => trivial, ?_⟩
  rw [ha.eval, sem_eq (h g w hs) (by simp)]
  exact k g _ w (ha.put _ _) hs
theorem tl_x {R : Value → SP → Prop} (hw : wantE n ops ρ o = true) (h : OpX P n ρ A o R) (k : ∀ v B, R v B → TL P n ops Q rest (put n ρ o.dst v) B) : TL P n ops Q (o :: rest) ρ A := fun g a w ha hs => by
  unfold wpListIn
  rw [want_eq ha, hw, if_pos rfl]
  refine ⟨fun _ _ => trivial, ?_⟩
  obtain ⟨v, w', B, hr, hb, hR⟩ := h g w hs
  rw [ha.eval, sem_eq hr (by simp)]
  exact k v B hR g _ w' (ha.put _ _) hb
theorem tl_u {B : SP} (hw : wantE n ops ρ o = true) (h : OpU P n ρ A o B) (k : TL P n ops Q rest (put n ρ o.dst undef) B) : TL P n ops Q (o :: rest) ρ A := fun g a w ha hs => by
  unfold wpListIn
  rw [want_eq ha, hw, if_pos rfl]
  refine ⟨fun _ _ => trivial, ?_⟩
  obtain ⟨w', hr, hb⟩ := h g w hs
  rw [ha.eval, sem_eq hr (by simp)]
  exact k g _ w' (ha.put _ _) hb
theorem tl_c {R : Value → SP → Prop} (hw : wantE n ops ρ o = true) (h : OpC P n ρ A o R) (k : ∀ v B, R v B → TL P n ops Q rest (put n ρ o.dst v) B) : TL P n ops Q (o :: rest) ρ A := fun g a w ha hs => by
  unfold wpListIn
  rw [want_eq ha, hw, if_pos rfl]
  refine ⟨fun _ _ => trivial, ?_⟩
  obtain ⟨f, args, w', hr, hc⟩ := h g w hs
  rw [ha.eval, sem_eq hr (by simp)]
  refine ⟨fun h => (by cases h), ?_⟩
  have hc' : CallsIn Fence.wide (0 - 1) P f args w' fun e w'' => ∃ v B, e = .returned v ∧ R v B ∧ sat g w'' B := callsIn_wide.2 hc
  refine CallsIn.mono (show CallsIn (Fc μ) (0 - 1) P f args w' _ from hc') fun e w'' ⟨v, B, he, hR, hb⟩ => ?_
  subst he
  exact k v B hR g _ w'' (ha.put _ _) hb
/-- A call of yield. -/
theorem tl_y {R : Value → SP → Prop} {x : Operand} {l : Nat} {args : Array Operand} {tys : Array TypeId} {vs : List Value} {dst : Option Tmp} {ty : TypeId} {pos : String} {after : Array Edge} {gd : Option (Nat × Bool)}
    (hw : wantE n ops ρ ⟨dst, .call { callee := .value x, args := args, argTypes := tys }, ty, pos, after, gd⟩ = true) (hx : ev n ρ x = .func (.yield l) #[] #[]) (hv : args.toList.map (ev n ρ) = vs) (h : Yd P l vs.toArray A R)
    (k : ∀ v B, R v B → TL P n ops Q rest (put n ρ dst v) B) : TL P n ops Q (⟨dst, .call { callee := .value x, args := args, argTypes := tys }, ty, pos, after, gd⟩ :: rest) ρ A := fun g a w ha hs => by
  unfold wpListIn
  rw [want_eq ha, hw, if_pos rfl]
  refine ⟨fun _ _ => trivial, ?_⟩
  obtain ⟨f, tmps, assign, body, hy, hr⟩ := h g w hs
  have he : args.map (ev n ρ) = vs.toArray := Array.ext' (by rw [Array.toList_map, hv])
  have hex : (execOp (ev n ρ) ⟨dst, .call { callee := .value x, args := args, argTypes := tys }, ty, pos, after, gd⟩).run P w = .ok (.round l f tmps assign body) w := by
    simp only [execOp, resolve, hx, Deferred.ofValue, he]
    rw [run_bind (w' := w) (a := ⟨.fn (.yield l) #[], #[] ++ vs.toArray⟩) (by rfl)]
    simpa [invoke] using hy
  rw [ha.eval, sem_eq hex (by simp)]
  refine ⟨fun h => (by cases h), ?_⟩
  refine RoundIn.mono (show RoundIn (Fc μ) (0 - 1) P l f tmps assign body w _ from hr) fun e w'' ⟨v, B, he, hR, hb⟩ => ?_
  subst he
  exact k v B hR g _ w'' (ha.put _ _) hb
theorem tc_reg {id : Nat} {l : List Oper} (h : TL P n l.toArray Q l ρ A) : TC P n (.region id l.toArray false) Q ρ A := fun g a w ha hs => wpIn_region_lit (h g a w ha hs)
end
end
/-! ## Functions -/
/-- The marks' blocks. -/
def Mk : List Nat → SP
  | [] => emp
  | r :: rs => Mk rs * pt r mkO
def retW (P : Program) (n : Nat) (fn : Func) (Q : Value → SP → Prop) : Post
  | .ret, ρ, A | .normal, ρ, A => ∃ rs B, mks (ρ n) = rs ∧ (∀ g w, sat g w A → sat g w (B * Mk rs)) ∧ ∃ v A', Res P n fn ρ B v ∧ (∀ g w, sat g w B → sat g w A') ∧ Q v A'
  | _, _, _ => False
theorem leaves_mk {P : Program} {fn : Func} {tmps : Array Value} {R : Ending → World → Prop} {g : Gh} {B : SP} : ∀ (rs : List Nat) (w : World), sat g w (B * Mk rs) →
    (∀ w, sat g w B → ∃ v, (results fn tmps).run P w = .ok v w ∧ R (.returned v) w) → LeavesInM Fence.wide 0 P fn tmps R (rs.map mark) .returning w
  | [], w, hs, h => h w hs.left
  | r :: rs, w, hs, h => by
    have hs' : sat g w (B * Mk rs * pt r mkO) := by rw [star_assoc]; exact hs
    have hr : w.heap[r]? = some mkO := has_here g w hs'
    refine ⟨by simp, .inl ⟨r, _, rfl, run_takeDeferred hr, leaves_mk rs _ ?_ h⟩⟩
    have hu : Upd (B * Mk rs * pt r mkO) r mkO (.deferred none) (B * Mk rs * pt r (.deferred none)) := upd_here
    have := hu.sat hs' (w' := w.putObj r (.deferred none)) (fun k => by
      by_cases hk : k = r
      · subst hk; rw [if_pos rfl]; exact World.putObj_heap_same (Array.getElem?_eq_some_iff.1 hr).1
      · rw [if_neg hk]; exact World.putObj_heap_other hk) rfl rfl rfl
    exact this.left
instance plainM : Rm := ⟨none⟩
theorem fn_enterW {P : Program} {f : FuncId} {fn : Func} {c : Code} {args : List Value} {A : SP} {Q : Value → SP → Prop} {n : Nat} (hf : P.funcs[f]? = some fn) (hb : fn.body = some c)
    (hn : fn.ntmps = n) (hle : args.length ≤ n) (h : @TC ⟨none⟩ P n c (retW P n fn Q) (argEnv und 0 args) A) : Fn P f args.toArray A Q := fun g w hs => by
  refine callsIn_wide.1 (callsIn_of_wp_marks (n := 0) hf hb trivial (wpIn_mono (h g _ w ?_ hs) ?_))
  · have hsz : (args.toArray ++ Array.replicate (fn.ntmps - args.toArray.size) undef).size = n := by simp; omega
    have key : ∀ (l : List Value) (ρ : Env) (k t : Nat), argEnv ρ k l t = if k ≤ t ∧ t < k + l.length then l.getD (t - k) undef else ρ t := by
      intro l
      induction l with
      | nil => intro ρ k t; simp only [argEnv, List.length_nil]; rw [if_neg (by omega)]
      | cons v l ih =>
        intro ρ k t
        simp only [argEnv, ih, List.length_cons]
        by_cases h1 : k + 1 ≤ t ∧ t < k + 1 + l.length
        · rw [if_pos h1, if_pos (by omega)]
          have : t - k = (t - (k + 1)) + 1 := by omega
          rw [this]; simp
        · rw [if_neg h1]
          by_cases h2 : t = k
          · subst h2
            rw [if_pos (by omega)]
            simp [upd]
          · rw [if_neg (by omega)]
            have : Nat.beq t k = false := by
              cases hb : Nat.beq t k with
              | false => rfl
              | true => exact absurd (Nat.eq_of_beq_eq_true hb) h2
            simp [upd, this]
    refine ⟨?_, hsz, fun t ht => ?_⟩
    · rw [key, if_neg (by omega)]; rfl
    · rw [key]
      rw [Array.getD_eq_getD_getElem?, Array.getElem?_append]
      by_cases h1 : t < args.length
      · rw [if_pos (by simpa using h1), if_pos (by omega)]
        simp
      · rw [if_neg (by simpa using h1), if_neg (by omega)]
        simp only [List.size_toArray] at *
        rw [Array.getElem?_replicate]
        split <;> simp [und]
  · rintro e a' w' ⟨_, ρ', A', ha', hs', hq⟩
    have fin : ∀ a' w', Agr n ρ' a' → sat g w' A' → retW P n fn Q .ret ρ' A' → LeavesInM Fence.wide 0 P fn a'.tmps (fun e w' => ∃ v B, e = .returned v ∧ Q v B ∧ sat g w' B) a'.defers .returning w' := by
      intro a' w' ha' hs' hq
      obtain ⟨rs, B, hm, hB, v, A2, hr, hi, hQ⟩ := hq
      rw [ha'.df, hm]
      exact leaves_mk rs w' (hB g w' hs') fun w hw => ⟨v, by have := hr g _ w ha'.plain hw; exact this, v, A2, rfl, hQ, hi g w hw⟩
    cases e with
    | normal => exact fin a' w' ha' hs' hq
    | ret => exact fin a' w' ha' hs' hq
    | _ => exact hq.elim
/-! ## Rounds -/
/-- A loop's record: its state, the jump that waits, the frame that it copies. -/
def Lp (l : Nat) (st : LoopState) (pe : Option Code) (n : Nat) (ρ : Env) (ps : Array Tmp) (assign body : Code) : SP :=
  ex fun r : Loop => fun h => (r.state = st ∧ r.pending = pe ∧ r.params = ps ∧ r.assign = assign ∧ r.body = body ∧ Vl.Agr n ρ { tmps := r.tmps, defers := [] }) ∧ pt l (.loop r) h
theorem lp_iff {l n : Nat} {st : LoopState} {pe : Option Code} {ρ : Env} {ps : Array Tmp} {assign body : Code} {R : SP} {g : Gh} {w : World} : sat g w (R * Lp l st pe n ρ ps assign body) ↔
    ∃ r : Loop, (r.state = st ∧ r.pending = pe ∧ r.params = ps ∧ r.assign = assign ∧ r.body = body ∧ Vl.Agr n ρ { tmps := r.tmps, defers := [] }) ∧ sat g w (R * pt l (.loop r)) := by
  constructor
  · intro hs
    obtain ⟨_, ⟨x, y, hd, rfl, ha, r, hr, hb⟩, hx⟩ := hs.hp
    exact ⟨r, hr, hs.os, hs.tape, hs.out, _, ⟨x, y, hd, rfl, ha, hb⟩, hx⟩
  · rintro ⟨r, hr, hs⟩
    exact hs.mono fun h ⟨x, y, hd, e, ha, hb⟩ => ⟨x, y, hd, e, ha, r, hr, hb⟩
theorem sat_putObj {R : SP} {l : Nat} {o o' : Obj} {g : Gh} {w : World} (hs : sat g w (R * pt l o)) : sat g (w.putObj l o') (R * pt l o') := by
  have hr : w.heap[l]? = some o := has_here g w hs
  exact (upd_here (R := R) (b := l) (o := o) (o' := o')).sat hs (w' := w.putObj l o') (fun k => by
    by_cases hk : k = l
    · subst hk; rw [if_pos rfl]; exact World.putObj_heap_same (Array.getElem?_eq_some_iff.1 hr).1
    · rw [if_neg hk]; exact World.putObj_heap_other hk) rfl rfl rfl
/-- The frame of a round: yield's arguments in the parameters. -/
def putL (n : Nat) : Env → List Tmp → List Value → Env
  | ρ, t :: ts, v :: vs => putL n (put n ρ (some t) v) ts vs
  | ρ, _, _ => ρ
theorem putL_agr {n : Nat} : ∀ (ts : List Tmp) (vs : List Value) (ρ : Env) (a : Act), Agr n ρ a → Agr n (putL n ρ ts vs) { a with tmps := (ts.zip vs).foldl (fun t (p : Tmp × Value) => t.setIfInBounds p.1 p.2) a.tmps }
  | [], _, _, a, h => by cases a; exact h
  | _ :: _, [], _, a, h => by cases a; exact h
  | t :: ts, v :: vs, ρ, a, h => putL_agr ts vs _ _ (h.put (some t) v)
/-- How a round may be left: by what its body says at its end. -/
def rndQ (l n : Nat) (ρ0 : Env) (ps : Array Tmp) (assign body : Code) (Q : Value → Option Code → SP → Prop) : Post
  | .normal, _, A => ∃ B, (∀ g w, sat g w A → sat g w (B * Lp l .busy none n ρ0 ps assign body)) ∧ Q (.bool true) none B
  | .ret, _, A => ∃ B, (∀ g w, sat g w A → sat g w (B * Lp l .busy none n ρ0 ps assign body)) ∧ Q (.bool false) (some .ret) B
  | .exit id, _, A => ∃ B, (∀ g w, sat g w A → sat g w (B * Lp l .busy none n ρ0 ps assign body)) ∧ Q (.bool false) (some (.exit id)) B
  | _, _, _ => False
def stOf : Option Code → LoopState
  | none => .ready
  | some _ => .done
/-- **A round, out of its body's walk.** -/
theorem yd_body {P : Program} {l n : Nat} {ρ : Env} {ps : Array Tmp} {assign body : Code} {A : SP} {vs : List Value} {Q : Value → Option Code → SP → Prop} (hn : vs.length = ps.size) (hm : mks (ρ n) = [])
    (h : @TC ⟨some l⟩ P n assign (fun e ρ' A' => match e with
      | .normal => ∃ B, (∀ g w, sat g w A' → sat g w (B * Lp l .ready none n ρ ps assign body)) ∧ @TC ⟨some l⟩ P n body (rndQ l n ρ ps assign body Q) ρ' (B * Lp l .busy none n ρ ps assign body)
      | _ => False) (putL n ρ ps.toList vs) (A * Lp l .ready none n ρ ps assign body)) :
    Yd P l vs.toArray (A * Lp l .ready none n ρ ps assign body) (fun v B => ∃ C j, Q v j C ∧ B = C * Lp l (stOf j) j n ρ ps assign body) := fun g w hs => by
  obtain ⟨r, ⟨h1, h2, h3, h4, h5, h6⟩, hs'⟩ := lp_iff.1 hs
  have hl : w.heap[l]? = some (.loop r) := has_here g w hs'
  refine ⟨r.fn, (r.params.zip vs.toArray).foldl (fun tmps (x : Tmp × Value) => tmps.setIfInBounds x.1 x.2) r.tmps, assign, body, ?_, ?_⟩
  · have := run_yield (P := P) (args := vs.toArray) hl (by simp [h3, hn])
    rw [h4, h5] at this; exact this
  have ha0 : Agr n ρ { tmps := r.tmps, defers := [] } := ⟨by rw [hm]; rfl, h6.sz, h6.ev⟩
  have ha := putL_agr ps.toList vs ρ _ ha0
  have e0 : ((r.params.zip vs.toArray).foldl (fun tmps (x : Tmp × Value) => tmps.setIfInBounds x.1 x.2) r.tmps) = ((ps.toList.zip vs).foldl (fun t (p : Tmp × Value) => t.setIfInBounds p.1 p.2) r.tmps) := by
    rw [h3, ← Array.foldl_toList, Array.toList_zip]
  refine roundIn_of_wpIn (F := Fence.wide) trivial ?_
  show assign.wpIn (Fc ⟨some l⟩) 0 P _ { tmps := (r.params.zip vs.toArray).foldl (fun tmps (x : Tmp × Value) => tmps.setIfInBounds x.1 x.2) r.tmps, defers := [] } w
  rw [e0]
  refine wpIn_mono (h g _ w ha hs) ?_
  rintro e a1 w1 ⟨_, ρ1, A1, ha1, hs1, hq⟩
  cases e with
  | normal =>
    obtain ⟨B, hB, hbody⟩ := hq
    have hs1 := hB g w1 hs1
    obtain ⟨r1, ⟨g1, g2, g3, g4, g5, g6⟩, hs1'⟩ := lp_iff.1 hs1
    have hl1 : w1.heap[l]? = some (.loop r1) := has_here g w1 hs1'
    refine ⟨_, run_beginRound hl1 g1, ?_⟩
    have hs2 := sat_putObj (o' := .loop { r1 with state := .busy }) hs1'
    have hs3 : sat g (w1.putObj l (.loop { r1 with state := .busy })) (B * Lp l .busy none n ρ ps assign body) := lp_iff.2 ⟨{ r1 with state := .busy }, ⟨rfl, g2, g3, g4, g5, g6⟩, hs2⟩
    refine wpIn_mono (show body.wpIn (Fc ⟨some l⟩) 0 P _ a1 _ from hbody g a1 _ ha1 hs3) ?_
    rintro e a3 w3 ⟨_, ρ3, A3, ha3, hs4, hq3⟩
    have fin : ∀ (jump : Option Code), (∃ C, (∀ g w, sat g w A3 → sat g w (C * Lp l .busy none n ρ ps assign body)) ∧ Q (.bool jump.isNone) jump C) →
        ∃ v w', (Instr.endRound l jump).run P w3 = .ok v w' ∧ ∃ v' B', (Ending.returned v : Ending) = .returned v' ∧ (∃ C j, Q v' j C ∧ B' = C * Lp l (stOf j) j n ρ ps assign body) ∧ sat g w' B' := by
      rintro jump ⟨C, hC, hQ⟩
      have hs4 := hC g w3 hs4
      obtain ⟨r3, ⟨k1, k2, k3, k4, k5, k6⟩, hs5⟩ := lp_iff.1 hs4
      have hl3 : w3.heap[l]? = some (.loop r3) := has_here g w3 hs5
      refine ⟨_, _, run_endRound jump hl3, _, _, rfl, ⟨C, jump, hQ, rfl⟩, ?_⟩
      refine lp_iff.2 ⟨{ r3 with state := if jump.isNone then .ready else .done, pending := jump }, ⟨?_, rfl, k3, k4, k5, k6⟩, sat_putObj hs5⟩
      cases jump <;> rfl
    cases e with
    | normal => exact fin none hq3
    | ret => exact fin (some .ret) hq3
    | exit id => exact fin (some (.exit id)) hq3
    | _ => exact hq3.elim
  | _ => exact hq.elim
/-! ## The statement -/
/-- What is asked when the function that was ranged over has returned. -/
def jmpQ (Q : Post) (ρ : Env) (A : SP) : Option Code → Prop
  | none => Q .normal ρ A
  | some .ret => Q .ret ρ A
  | some (.exit id) => Q (.exit id) ρ A
  | _ => False
/-- **for .. := range g { .. }, in a function's own frame.** -/
theorem tc_range {P : Program} {n : Nat} {Q : Post} {ρ : Env} {A : SP} {x : Operand} {ps : Array Tmp} {assign body : Code} {gf : FuncId} {fs cs : List Value} (hx : ev n ρ x = .func (.func gf) fs.toArray cs.toArray) (hb : bodyB P gf = true)
    (h : ∀ r l : Nat, Fn P gf (fs ++ [Value.func (.yield l) #[] #[]] ++ cs).toArray (A * pt r mkO * Lp l .ready none n ρ ps assign body) fun _ B =>
      ∃ st j C, st ≠ .busy ∧ B = C * pt r mkO * Lp l st j n ρ ps assign body ∧ jmpQ Q (upd ρ n (mkv (r :: mks (ρ n)))) (C * pt r mkO) j) : @TC ⟨none⟩ P n (.rangeFunc x ps assign body) Q ρ A := fun g a w ha hs => by
  refine wpIn_rangeFunc fun fn _ => ?_
  obtain ⟨rec, hrec⟩ : ∃ rec : Loop, rec = { state := .ready, pending := none, fn, tmps := a.tmps, params := ps, assign, body, defers := w.heap.size } := ⟨_, rfl⟩
  obtain ⟨W1, hW1⟩ : ∃ W1, (w.alloc (.deferred (some []))).alloc (.loop rec) = W1 := ⟨_, rfl⟩
  have hs1 : sat g W1 (A * pt w.heap.size mkO * Lp (w.heap.size + 1) .ready none n ρ ps assign body) := by
    rw [← hW1]
    have hsz : (w.alloc (.deferred (some []))).heap.size = w.heap.size + 1 := by simp
    have := (hs.alloc (.deferred (some []))).alloc (.loop rec)
    rw [hsz] at this
    exact lp_iff.2 ⟨rec, by rw [hrec]; exact ⟨rfl, rfl, rfl, rfl, rfl, rfl, ha.sz, ha.ev⟩, this⟩
  refine ⟨w.heap.size + 1, [mark w.heap.size], W1, { target := .fn (.func gf) cs.toArray, args := fs.toArray ++ #[.func (.yield (w.heap.size + 1)) #[] #[]] }, W1, gf,
    (fs ++ [Value.func (.yield (w.heap.size + 1)) #[] #[]] ++ cs).toArray, W1, ?_, ?_, fun _ _ => trivial, ?_, fun h => (by cases h), ?_⟩
  · rw [← hW1, hrec]; exact run_enterLoop_outer _ _ _ _ _
  · simp only [resolve, ha.eval, hx]
    simp [Deferred.ofValue, ev, pure, bind, Sem.bind]
  · simp only [invoke]
    rw [run_callFunc hb]; simp
  · have hc := h w.heap.size (w.heap.size + 1) g W1 hs1
    refine CallsIn.mono (show CallsIn (Fc ⟨none⟩) (0 - 1) P gf _ W1 _ from callsIn_wide.2 hc) ?_
    rintro e w3 ⟨v, B, rfl, ⟨st, j, C, hst, rfl, hj⟩, hs3⟩
    obtain ⟨r3, ⟨k1, k2, k3, k4, k5, k6⟩, hs5⟩ := lp_iff.1 hs3
    have hl3 : w3.heap[w.heap.size + 1]? = some (.loop r3) := has_here g w3 hs5
    refine ⟨_, _, run_endLoop hl3 (by rw [k1]; exact hst), ?_⟩
    have hs6 := (sat_putObj (o' := .loop { r3 with state := .exhausted }) hs5).left
    have ha6 : Agr n (upd ρ n (mkv (w.heap.size :: mks (ρ n)))) { a with defers := [mark w.heap.size] ++ a.defers } := by
      refine ⟨?_, ha.sz, fun t ht => ?_⟩
      · show [mark w.heap.size] ++ a.defers = _
        have : upd ρ n (mkv (w.heap.size :: mks (ρ n))) n = mkv (w.heap.size :: mks (ρ n)) := by simp [upd]
        rw [this, mks_mkv, ha.df]; rfl
      · have : Nat.beq t n = false := by
          cases hb : Nat.beq t n with
          | false => rfl
          | true => have := Nat.eq_of_beq_eq_true hb; omega
        simp only [upd, this, cond_false]; exact ha.ev t ht
    rw [k2] at hs6 ⊢
    cases j with
    | none => exact ⟨rfl, _, _, ha6, hs6, hj⟩
    | some c =>
      cases c with
      | ret => exact wpIn_ret ⟨rfl, _, _, ha6, hs6, hj⟩
      | exit id => exact wpIn_exit ⟨rfl, _, _, ha6, hs6, hj⟩
      | _ => exact hj.elim
/-! ## Iterators -/
/-- What an iterator promises: it calls yield with val 0, val 1, .. up to N of them, till a round says no. K: what it holds of memory itself; a round leaves alone whatever else there is. -/
def It (P : Program) (gf : FuncId) (fs cs : List Value) (K : SP) (N : Nat) (val : Nat → List Value) : Prop :=
  ∀ (l : Nat) (J : Nat → SP → Prop) (X : SP → Prop) (S0 : SP), J 0 S0 →
    (∀ F i S, i < N → J i S → Yd P l (val i).toArray (F * S) fun v B => ∃ (b : Bool) (S' : SP), v = .bool b ∧ (b = true → J (i + 1) S') ∧ (b = false → X S') ∧ B = F * S') →
    Fn P gf (fs ++ [Value.func (.yield l) #[] #[]] ++ cs).toArray (S0 * K) fun r B => r = .tuple #[] ∧ ((∃ S, J N S ∧ B = S * K) ∨ ∃ S, X S ∧ B = S * K)
section
variable (l n : Nat) (ρ0 : Env) (ps : Array Tmp) (assign body : Code) (F : SP)
def rndI (I1 : SP → Prop) (X : Code → SP → Prop) : Post
  | .normal, _, A => ∃ S, (∀ g w, sat g w A → sat g w (F * S)) ∧ I1 S
  | .ret, _, A => ∃ S, (∀ g w, sat g w A → sat g w (F * S)) ∧ X .ret S
  | .exit id, _, A => ∃ S, (∀ g w, sat g w A → sat g w (F * S)) ∧ X (.exit id) S
  | _, _, _ => False
def asgI (P : Program) (I1 : SP → Prop) (X : Code → SP → Prop) : Post
  | .normal, ρ, A => ∃ S, (∀ g w, sat g w A → sat g w (F * S)) ∧ ∀ F, @TC ⟨some l⟩ P n body (rndI F I1 X) ρ (F * S)
  | _, _, _ => False
end
/-- **for .. := range g { .. }, over an iterator that has its contract.** -/
theorem tc_rangeI {P : Program} {n N : Nat} {Q : Post} {ρ : Env} {A A0 K : SP} {x : Operand} {ps : Array Tmp} {assign body : Code} {gf : FuncId} {fs cs : List Value} {val : Nat → List Value} (I : Nat → SP → Prop) (X : Code → SP → Prop)
    (hx : ev n ρ x = .func (.func gf) fs.toArray cs.toArray) (hb : bodyB P gf = true) (hit : It P gf fs cs K N val) (hps : ∀ i, (val i).length = ps.size) (hm : mks (ρ n) = []) (hA : ∀ g w, sat g w A → sat g w (A0 * K)) (h0 : I 0 A0)
    (round : ∀ l F i S, i < N → I i S → @TC ⟨some l⟩ P n assign (asgI l n body F P (I (i + 1)) X) (putL n ρ ps.toList (val i)) (F * S))
    (done : ∀ r S, I N S → Q .normal (upd ρ n (mkv [r])) (S * K * pt r mkO)) (jump : ∀ r j S, X j S → jmpQ Q (upd ρ n (mkv [r])) (S * K * pt r mkO) (some j)) : @TC ⟨none⟩ P n (.rangeFunc x ps assign body) Q ρ A := by
  refine tc_pre hA (tc_range hx hb fun r l => ?_)
  rw [hm]
  have hY := hit l (fun i S => ∃ S1, S = S1 * pt r mkO * Lp l .ready none n ρ ps assign body ∧ I i S1) (fun S => ∃ j S1, S = S1 * pt r mkO * Lp l .done (some j) n ρ ps assign body ∧ X j S1) _ ⟨A0, rfl, h0⟩ ?_
  · refine Fn.mono (hY.pre fun _ _ h => (show A0 * K * pt r mkO * Lp l .ready none n ρ ps assign body = A0 * pt r mkO * Lp l .ready none n ρ ps assign body * K by ac_rfl) ▸ h) ?_
    rintro v B ⟨_, ⟨_, ⟨S1, rfl, hI⟩, rfl⟩ | ⟨_, ⟨j, S1, rfl, hX⟩, rfl⟩⟩
    · exact ⟨.ready, none, S1 * K, by simp, by ac_rfl, done r S1 hI⟩
    · exact ⟨.done, some j, S1 * K, by simp, by ac_rfl, jump r j S1 hX⟩
  · rintro F i _ hi ⟨S1, rfl, hI⟩
    have e1 : ∀ (S L : SP), F * S * pt r mkO * L = F * pt r mkO * L * S := fun S L => by ac_rfl
    have hb := yd_body (P := P) (l := l) (n := n) (ρ := ρ) (ps := ps) (assign := assign) (body := body) (A := F * S1 * pt r mkO) (vs := val i)
      (Q := fun v j C => ∃ S2, C = F * S2 * pt r mkO ∧ ((j = none ∧ v = .bool true ∧ I (i + 1) S2) ∨ ∃ c, j = some c ∧ v = .bool false ∧ X c S2)) (hps i) hm
      (by
        rw [e1]
        refine tc_imp (round l (F * pt r mkO * Lp l .ready none n ρ ps assign body) i S1 hi hI) fun e ρ' A' hq => ?_
        cases e with
        | normal =>
          obtain ⟨S, hS, hbody⟩ := hq
          refine ⟨F * S * pt r mkO, fun g w h => by rw [e1]; exact hS g w h, ?_⟩
          rw [e1]
          refine tc_imp (hbody (F * pt r mkO * Lp l .busy none n ρ ps assign body)) fun e ρ2 A2 hq => ?_
          cases e with
          | normal => obtain ⟨S2, h2, hI2⟩ := hq; exact ⟨F * S2 * pt r mkO, fun g w h => by rw [e1]; exact h2 g w h, S2, rfl, .inl ⟨rfl, rfl, hI2⟩⟩
          | ret => obtain ⟨S2, h2, hI2⟩ := hq; exact ⟨F * S2 * pt r mkO, fun g w h => by rw [e1]; exact h2 g w h, S2, rfl, .inr ⟨_, rfl, rfl, hI2⟩⟩
          | exit id => obtain ⟨S2, h2, hI2⟩ := hq; exact ⟨F * S2 * pt r mkO, fun g w h => by rw [e1]; exact h2 g w h, S2, rfl, .inr ⟨_, rfl, rfl, hI2⟩⟩
          | _ => exact hq.elim
        | _ => exact hq.elim)
    refine (hb.pre fun _ _ h => (show F * (S1 * pt r mkO * Lp l .ready none n ρ ps assign body) = F * S1 * pt r mkO * Lp l .ready none n ρ ps assign body by ac_rfl) ▸ h).mono ?_
    rintro v B ⟨C, j, ⟨S2, rfl, ⟨rfl, rfl, hI2⟩ | ⟨c, rfl, rfl, hX⟩⟩, rfl⟩
    · exact ⟨true, _, rfl, fun _ => ⟨S2, rfl, hI2⟩, fun e => (by cases e), by show _ = F * (S2 * pt r mkO * Lp l (stOf none) none n ρ ps assign body); ac_rfl⟩
    · exact ⟨false, _, rfl, fun e => (by cases e), fun _ => ⟨c, S2, rfl, hX⟩, by show _ = F * (S2 * pt r mkO * Lp l (stOf (some c)) (some c) n ρ ps assign body); ac_rfl⟩
/-- What a round of the caller's does, in the iterator's own order of things. -/
theorem yd_b {P : Program} {l : Nat} {args : Array Value} {J X : SP → Prop} {F S A' : SP} {G : SP → SP} (h : Yd P l args (F * S) fun v B => ∃ (b : Bool) (S' : SP), v = .bool b ∧ (b = true → J S') ∧ (b = false → X S') ∧ B = F * S') (hA : A' = F * S) (hk : ∀ S : SP, F * S = G S) :
    Yd P l args A' fun v B => ∃ (b : Bool) (S' : SP), v = .bool b ∧ (b = true → J S') ∧ (b = false → X S') ∧ B = G S' := by
  subst hA
  refine h.mono fun v B ⟨b, S', e1, e2, e3, e4⟩ => ⟨b, S', e1, e2, e3, ?_⟩
  rw [e4, hk]
theorem jmp_r {Q : Post} {ρ : Env} {A : SP} (h : Q .ret ρ A) : jmpQ Q ρ A (some .ret) := h
theorem mk1 {B : SP} {r : Nat} {g : Gh} {w : World} (h : sat g w (B * pt r mkO)) : sat g w (B * Mk [r]) := by
  show sat g w (B * (emp * pt r mkO)); rw [emp_star]; exact h
theorem mk0 {B : SP} {g : Gh} {w : World} (h : sat g w B) : sat g w (B * Mk []) := by
  show sat g w (B * emp); rw [star_emp]; exact h
end Go.Vl.Rg

set_option linter.unusedVariables false
set_option linter.unusedSimpArgs false
namespace Go.Vl
open Go Go.Proofs
theorem star3 (S a b c : SP) : S * (a * b * c) = S * a * b * c := by rw [← star_assoc, ← star_assoc]
theorem star2' (S a b : SP) : S * (a * b) = S * a * b := (star_assoc _ _ _).symm
attribute [local irreducible] Sl pt ro Dev imgS
namespace Rg
theorem units1_f {at_ n l N b1 b2 b3 : Nat} {J : Nat → SP → Prop} {X : SP → Prop} {S0 : SP} (h1 : 1 ≤ n) (h2 : at_ + n ≤ 9223372036854775807) (hN : N = ((at_ + n - 1) / 8 - at_ / 8 + 1)) (h0 : J 0 S0) (hY : ∀ F i S, i < N → J i S → Yd Try.prog l #[.int .i64 ((at_ / 8 + i : Nat) : Int)] (F * S) (fun v B => ∃ (b : Bool) (S' : SP), v = .bool b ∧ (b = true → J (i + 1) S') ∧ (b = false → X S') ∧ B = F * S')) :
    Fn Try.prog 156 #[.func (.yield l) #[] #[], .pointer (some ⟨b1, 0, none⟩), .pointer (some ⟨b2, 0, none⟩), .pointer (some ⟨b3, 0, none⟩)] (S0 * pt b1 (cl [.int .i64 (at_ : Int)] 3) * pt b2 (cl [.int .i64 (n : Int)] 3) * pt b3 (cl [.int .i64 8] 3)) (fun r B => r = .tuple #[] ∧ ((∃ S, J N S ∧ B = S * pt b1 (cl [.int .i64 (at_ : Int)] 3) * pt b2 (cl [.int .i64 (n : Int)] 3) * pt b3 (cl [.int .i64 8] 3)) ∨ ∃ S, X S ∧ B = S * pt b1 (cl [.int .i64 (at_ : Int)] 3) * pt b2 (cl [.int .i64 (n : Int)] 3) * pt b3 (cl [.int .i64 8] 3))) := by
  refine fn_enterW (args := [.func (.yield l) #[] #[], .pointer (some ⟨b1, 0, none⟩), .pointer (some ⟨b2, 0, none⟩), .pointer (some ⟨b3, 0, none⟩)]) Try.func156 rfl Try.ntmps156 (by simp) ?_
  refine tc_seq ?_
  refine tc_seq ?_
  refine tc_reg ?_
  refine tl_v rfl (by first | exact o_load p3 rfl (by repeat (first | with_reducible exact has_here | with_reducible exact has_pt | apply has_left)) rfl | exact o_loadC p3 rfl (by assumption)) ?_
  refine tl_v rfl (o_lss rfl rfl) ?_
  refine tl_v rfl (o_move (by conv => lhs; whnf)) ?_
  refine tl_bool (d := 8) rfl (fun h => ?_) (fun h => ?_)
  · (exfalso; first | (revert h; simp; done) | (simp at h; done) | (revert h; simp; omega) | (simp at h; omega) | omega)
  · try simp only [decide_eq_true_eq, decide_eq_false_iff_not, Bool.not_eq_true', Bool.not_eq_false', Option.isNone_some, Option.isNone_none, Bool.not_true, Bool.not_false] at h
    refine tl_v rfl (by first | exact o_load p3 rfl (by repeat (first | with_reducible exact has_here | with_reducible exact has_pt | apply has_left)) rfl | exact o_loadC p3 rfl (by assumption)) ?_
    refine tl_v rfl (o_lss rfl rfl) ?_
    refine tl_v rfl (o_pick_f rfl (by conv => lhs; whnf)) ?_
    refine tl_v rfl (o_move (by conv => lhs; whnf)) ?_
    refine tl_bool (d := 12) rfl (fun h => ?_) (fun h => ?_)
    · (exfalso; first | (revert h; simp; done) | (simp at h; done) | (revert h; simp; omega) | (simp at h; omega) | omega)
    · try simp only [decide_eq_true_eq, decide_eq_false_iff_not, Bool.not_eq_true', Bool.not_eq_false', Option.isNone_some, Option.isNone_none, Bool.not_true, Bool.not_false] at h
      refine tl_v rfl (by first | exact o_load p3 rfl (by repeat (first | with_reducible exact has_here | with_reducible exact has_pt | apply has_left)) rfl | exact o_loadC p3 rfl (by assumption)) ?_
      refine tl_v rfl (by first | exact o_load p3 rfl (by repeat (first | with_reducible exact has_here | with_reducible exact has_pt | apply has_left)) rfl | exact o_loadC p3 rfl (by assumption)) ?_
      refine tl_v rfl (by first | exact o_subI rfl rfl (by omega) | exact o_sub rfl rfl) ?_
      refine tl_v rfl (o_gtr rfl rfl) ?_
      refine tl_v rfl (o_pick_f rfl (by conv => lhs; whnf)) ?_
      refine tl_nil ?_
      refine q_then_n ?_
      refine tc_cond rfl (fun h => ?_) (fun h => ?_)
      · (exfalso; first | (revert h; simp; done) | (simp at h; done) | (revert h; simp; omega) | (simp at h; omega) | omega)
      · try simp only [decide_eq_true_eq, decide_eq_false_iff_not, Bool.not_eq_true', Bool.not_eq_false', Option.isNone_some, Option.isNone_none, Bool.not_true, Bool.not_false] at h
        refine tc_skip ?_
        refine q_then_n ?_
        refine tc_seq ?_
        refine tc_reg ?_
        refine tl_v rfl (by first | exact o_load p3 rfl (by repeat (first | with_reducible exact has_here | with_reducible exact has_pt | apply has_left)) rfl | exact o_loadC p3 rfl (by assumption)) ?_
        refine tl_v rfl (by first | exact o_load p3 rfl (by repeat (first | with_reducible exact has_here | with_reducible exact has_pt | apply has_left)) rfl | exact o_loadC p3 rfl (by assumption)) ?_
        refine tl_v rfl (o_quoN (b := 8) rfl rfl (by omega)) ?_
        refine tl_v rfl (o_assign (by conv => lhs; whnf)) ?_
        refine tl_nil ?_
        refine q_then_n ?_
        refine tc_block ?_
        refine tc_loop (fun kk ρ BB => ∃ (k : Nat) (S : SP), (k ≤ N) ∧ (J k S) ∧ kk = N - k ∧ ρ 5 = .int .i64 ((at_ / 8 + k : Nat) : Int) ∧ ρ 35 = undef ∧ ρ 0 = .func (.yield l) #[] #[] ∧ ρ 1 = .pointer (some ⟨b1, 0, none⟩) ∧ ρ 2 = .pointer (some ⟨b2, 0, none⟩) ∧ ρ 3 = .pointer (some ⟨b3, 0, none⟩) ∧ BB = S * pt b1 (cl [.int .i64 (at_ : Int)] 3) * pt b2 (cl [.int .i64 (n : Int)] 3) * pt b3 (cl [.int .i64 8] 3)) (m := N - (0)) ?_ ?_
        · exact ⟨0, S0, by omega, h0, rfl, rfl, rfl, rfl, rfl, rfl, rfl, rfl⟩
        · intro k ρ B hI
          obtain ⟨k, S, hp0, hp1, hkk1, hE5, hE35, hE0, hE1, hE2, hE3, rfl⟩ := hI
          refine tc_env (d := 5) hE5 ?_
          refine tc_env (d := 35) hE35 ?_
          refine tc_env (d := 0) hE0 ?_
          refine tc_env (d := 1) hE1 ?_
          refine tc_env (d := 2) hE2 ?_
          refine tc_env (d := 3) hE3 ?_
          clear hE5 hE35 hE0 hE1 hE2 hE3
          refine tc_seq ?_
          refine tc_seq ?_
          refine tc_reg ?_
          refine tl_v rfl (o_move (by conv => lhs; whnf)) ?_
          refine tl_v rfl (by first | exact o_load p3 rfl (by repeat (first | with_reducible exact has_here | with_reducible exact has_pt | apply has_left)) rfl | exact o_loadC p3 rfl (by assumption)) ?_
          refine tl_v rfl (by first | exact o_load p3 rfl (by repeat (first | with_reducible exact has_here | with_reducible exact has_pt | apply has_left)) rfl | exact o_loadC p3 rfl (by assumption)) ?_
          refine tl_v rfl (by first | exact o_addI rfl rfl (by omega) | exact o_add rfl rfl) ?_
          refine tl_v rfl (by first | exact o_subI rfl rfl (by omega) | exact o_sub rfl rfl) ?_
          refine tl_v rfl (by first | exact o_load p3 rfl (by repeat (first | with_reducible exact has_here | with_reducible exact has_pt | apply has_left)) rfl | exact o_loadC p3 rfl (by assumption)) ?_
          refine tl_v rfl (o_quoI rfl rfl (by omega)) ?_
          refine tl_v rfl (o_leq rfl rfl) ?_
          refine tl_nil ?_
          refine q_then_n ?_
          refine tc_cond rfl (fun h => ?_) (fun h => ?_)
          · try simp only [decide_eq_true_eq, decide_eq_false_iff_not, Bool.not_eq_true', Bool.not_eq_false', Option.isNone_some, Option.isNone_none, Bool.not_true, Bool.not_false] at h
            refine tc_skip ?_
            refine q_then_n ?_
            refine tc_seq ?_
            refine tc_block ?_
            refine tc_seq ?_
            refine tc_reg ?_
            refine tl_v rfl (o_move (by conv => lhs; whnf)) ?_
            refine tl_v rfl (o_move (by conv => lhs; whnf)) ?_
            refine tl_y rfl rfl rfl (yd_b (F := pt b1 (cl [.int .i64 (at_ : Int)] 3) * pt b2 (cl [.int .i64 (n : Int)] 3) * pt b3 (cl [.int .i64 8] 3)) (G := fun S' => S' * pt b1 (cl [.int .i64 (at_ : Int)] 3) * pt b2 (cl [.int .i64 (n : Int)] 3) * pt b3 (cl [.int .i64 8] 3)) (hY _ k S (by omega) hp1) (by ac_rfl) (fun S' => by ac_rfl)) ?_
            rintro _ _ ⟨b33, S2, rfl, hT, hF, rfl⟩
            refine tl_v rfl (o_not rfl) ?_
            refine tl_nil ?_
            refine q_then_n ?_
            refine tc_cond rfl (fun h => ?_) (fun h => ?_)
            · have hb : b33 = false := by simpa using h
              subst hb
              refine tc_ret ?_
              refine q_block_r (q_then_r (q_then_r (q_block_r ?_)))
              exact ⟨[], _, rfl, fun _ _ h => mk0 h, .tuple #[], S2 * pt b1 (cl [.int .i64 (at_ : Int)] 3) * pt b2 (cl [.int .i64 (n : Int)] 3) * pt b3 (cl [.int .i64 8] 3), res0 rfl, fun _ _ h => h, rfl, .inr ⟨S2, hF rfl, rfl⟩⟩
            · have hb : b33 = true := by simpa using h
              subst hb
              refine tc_skip ?_
              refine q_block_n (q_then_n ?_)
              refine tc_reg ?_
              refine tl_v rfl (o_move (by conv => lhs; whnf)) ?_
              refine tl_v rfl (by first | exact o_addI rfl rfl (by omega) | exact o_add rfl rfl) ?_
              refine tl_v rfl (o_assign (by conv => lhs; whnf)) ?_
              refine tl_nil ?_
              refine q_then_n ?_
              exact ⟨_, by omega, k + 1, _, by omega, hT rfl, rfl, rfl, rfl, rfl, rfl, rfl, rfl, rfl⟩
          · try simp only [decide_eq_true_eq, decide_eq_false_iff_not, Bool.not_eq_true', Bool.not_eq_false', Option.isNone_some, Option.isNone_none, Bool.not_true, Bool.not_false] at h
            refine tc_exit ?_
            refine q_then_e (q_then_e (q_block_x ?_))
            obtain rfl : k = N := by omega
            exact ⟨[], _, rfl, fun _ _ h => mk0 h, .tuple #[], S * pt b1 (cl [.int .i64 (at_ : Int)] 3) * pt b2 (cl [.int .i64 (n : Int)] 3) * pt b3 (cl [.int .i64 8] 3), res0 rfl, fun _ _ h => h, rfl, .inl ⟨S, hp1, rfl⟩⟩
end Rg
theorem units_it {at_ n N b1 b2 b3 : Nat} (h1 : 1 ≤ n) (h2 : at_ + n ≤ 9223372036854775807) (hN : N = ((at_ + n - 1) / 8 - at_ / 8 + 1)) :
    Rg.It Try.prog 156 [] [.pointer (some ⟨b1, 0, none⟩), .pointer (some ⟨b2, 0, none⟩), .pointer (some ⟨b3, 0, none⟩)] (pt b1 (cl [.int .i64 (at_ : Int)] 3) * pt b2 (cl [.int .i64 (n : Int)] 3) * pt b3 (cl [.int .i64 8] 3)) N (fun i => [.int .i64 ((at_ / 8 + i : Nat) : Int)]) := fun l J X S0 h0 hY => by
  have hk : ∀ S : SP, S * (pt b1 (cl [.int .i64 (at_ : Int)] 3) * pt b2 (cl [.int .i64 (n : Int)] 3) * pt b3 (cl [.int .i64 8] 3)) = S * pt b1 (cl [.int .i64 (at_ : Int)] 3) * pt b2 (cl [.int .i64 (n : Int)] 3) * pt b3 (cl [.int .i64 8] 3) := fun S => star3 _ _ _ _
  rw [hk S0]
  refine (Rg.units1_f (J := J) (X := X) h1 h2 hN h0 hY).mono ?_
  rintro v B ⟨rfl, ⟨S, hS, rfl⟩ | ⟨S, hS, rfl⟩⟩
  · exact ⟨rfl, .inl ⟨S, hS, (hk S).symm⟩⟩
  · exact ⟨rfl, .inr ⟨S, hS, (hk S).symm⟩⟩
theorem units_c {A : SP} {at_ n : Nat} :
    Fn Try.prog 155 #[.int .i64 (at_ : Nat), .int .i64 (n : Nat), .int .i64 8] (A) (fun r B => ∃ b1 b2 b3, r = .func (.func 156) #[] #[.pointer (some ⟨b1, 0, none⟩), .pointer (some ⟨b2, 0, none⟩), .pointer (some ⟨b3, 0, none⟩)] ∧ B = A * (pt b1 (cl [.int .i64 (at_ : Int)] 3) * pt b2 (cl [.int .i64 (n : Int)] 3) * pt b3 (cl [.int .i64 8] 3))) := by
  refine fn_enterW (args := [.int .i64 (at_ : Nat), .int .i64 (n : Nat), .int .i64 8]) Try.func155 rfl Try.ntmps155 (by simp) ?_
  refine tc_seq ?_
  refine tc_reg ?_
  refine tl_x rfl (o_box rfl rfl) ?_
  rintro _ _ ⟨b3, rfl, rfl⟩
  refine tl_x rfl (o_box rfl rfl) ?_
  rintro _ _ ⟨b4, rfl, rfl⟩
  refine tl_x rfl (o_box rfl rfl) ?_
  rintro _ _ ⟨b5, rfl, rfl⟩
  refine tl_v rfl (o_assign (by conv => lhs; whnf)) ?_
  refine tl_nil ?_
  refine q_then_n ?_
  refine tc_seq ?_
  refine tc_reg ?_
  refine tl_v rfl (o_makeFunc rfl rfl) ?_
  refine tl_v rfl (o_assign (by conv => lhs; whnf)) ?_
  refine tl_nil ?_
  refine q_then_n ?_
  refine tc_ret ?_
  exact ⟨_, _, res1 rfl rfl, fun _ _ h => h, b3, b4, b5, rfl, (star3 _ _ _ _).symm⟩
theorem Words_c {A : SP} {at_ n : Nat} :
    Fn Try.prog 153 #[.int .i64 (at_ : Nat), .int .i64 (n : Nat)] (A) (fun r B => ∃ b1 b2 b3, r = .func (.func 156) #[] #[.pointer (some ⟨b1, 0, none⟩), .pointer (some ⟨b2, 0, none⟩), .pointer (some ⟨b3, 0, none⟩)] ∧ B = A * (pt b1 (cl [.int .i64 (at_ : Int)] 3) * pt b2 (cl [.int .i64 (n : Int)] 3) * pt b3 (cl [.int .i64 8] 3))) := by
  refine fn_enterW (args := [.int .i64 (at_ : Nat), .int .i64 (n : Nat)]) Try.func153 rfl Try.ntmps153 (by simp) ?_
  refine tc_seq ?_
  refine tc_reg ?_
  refine tl_v rfl (o_assign (by conv => lhs; whnf)) ?_
  refine tl_nil ?_
  refine q_then_n ?_
  refine tc_seq ?_
  refine tc_reg ?_
  refine tl_v rfl (o_move (by conv => lhs; whnf)) ?_
  refine tl_v rfl (o_move (by conv => lhs; whnf)) ?_
  refine tl_c rfl (o_call bd155 rfl (units_c)) ?_
  rintro _ _ ⟨b17, b27, b37, rfl, rfl⟩
  refine tl_v rfl (o_assign (by conv => lhs; whnf)) ?_
  refine tl_nil ?_
  refine q_then_n ?_
  refine tc_ret ?_
  exact ⟨_, _, res1 rfl rfl, fun _ _ h => h, b17, b27, b37, rfl, rfl⟩
namespace Rg
theorem Lines1_f {at_ n l0 N b1 b2 : Nat} {J : Nat → SP → Prop} {X : SP → Prop} {S0 : SP} (h1 : 1 ≤ n) (h2 : at_ + n ≤ 9223372036854775807) (hN : N = (at_ + n - 1) / 64 - at_ / 64 + 1) (h0 : J 0 S0) (hY : ∀ F i S, i < N → J i S → Yd Try.prog l0 #[.int .i64 ((at_ / 64 + i : Nat) : Int)] (F * S) (fun v B => ∃ (b : Bool) (S' : SP), v = .bool b ∧ (b = true → J (i + 1) S') ∧ (b = false → X S') ∧ B = F * S')) :
    Fn Try.prog 152 #[.func (.yield l0) #[] #[], .pointer (some ⟨b1, 0, none⟩), .pointer (some ⟨b2, 0, none⟩)] (S0 * pt b1 (cl [.int .i64 (at_ : Int)] 3) * pt b2 (cl [.int .i64 (n : Int)] 3)) (fun r B => r = .tuple #[] ∧ ((∃ S, J N S ∧ B = S * pt b1 (cl [.int .i64 (at_ : Int)] 3) * pt b2 (cl [.int .i64 (n : Int)] 3)) ∨ ∃ S, X S ∧ B = S * pt b1 (cl [.int .i64 (at_ : Int)] 3) * pt b2 (cl [.int .i64 (n : Int)] 3))) := by
  refine fn_enterW (args := [.func (.yield l0) #[] #[], .pointer (some ⟨b1, 0, none⟩), .pointer (some ⟨b2, 0, none⟩)]) Try.func152 rfl Try.ntmps152 (by simp) ?_
  refine tc_seq ?_
  refine tc_reg ?_
  refine tl_x rfl (o_box rfl rfl) ?_
  rintro _ _ ⟨b3, rfl, rfl⟩
  refine tl_nil ?_
  refine q_then_n ?_
  refine tc_seq ?_
  refine tc_reg ?_
  refine tl_x rfl (o_alloc z3 rfl) ?_
  rintro _ _ ⟨b4, rfl, rfl⟩
  refine tl_u rfl (o_stU rfl (by repeat (first | with_reducible exact upd_here | with_reducible exact upd_pt | apply upd_left)) sz3 rfl rfl (by first | decide | simp | omega) rfl) ?_
  refine tl_nil ?_
  refine q_then_n ?_
  refine tc_seq ?_
  refine tc_reg ?_
  refine tl_v rfl (by first | exact o_load p3 rfl (by repeat (first | with_reducible exact has_here | with_reducible exact has_pt | apply has_left)) rfl | exact o_loadC p3 rfl (by assumption)) ?_
  refine tl_v rfl (by first | exact o_load p3 rfl (by repeat (first | with_reducible exact has_here | with_reducible exact has_pt | apply has_left)) rfl | exact o_loadC p3 rfl (by assumption)) ?_
  refine tl_c rfl (o_call bd153 rfl (Words_c)) ?_
  rintro _ _ ⟨w1, w2, w3, rfl, rfl⟩
  refine tl_nil ?_
  refine q_then_n ?_
  refine tc_block ?_
  refine tc_rangeI (K := (pt w1 (cl [.int .i64 (at_ : Int)] 3) * pt w2 (cl [.int .i64 (n : Int)] 3) * pt w3 (cl [.int .i64 8] 3))) (N := ((at_ + n - 1) / 8 - at_ / 8 + 1)) (A0 := S0 * pt b1 (cl [.int .i64 (at_ : Int)] 3) * pt b2 (cl [.int .i64 (n : Int)] 3) * pt b3 (cl [.func (.yield l0) #[] #[]] 166) * pt b4 (cl [.int .i64 (-1)] 3)) (fun i S => ∃ (S1 : SP) (c : Nat) (ws : Int), (J c S1) ∧ ((i = 0 ∧ c = 0 ∧ ws = -1) ∨ (0 < i ∧ ws = (((at_ / 8 + i - 1) / 8 : Nat) : Int) ∧ c = (at_ / 8 + i - 1) / 8 - at_ / 64 + 1)) ∧ S = S1 * pt b1 (cl [.int .i64 (at_ : Int)] 3) * pt b2 (cl [.int .i64 (n : Int)] 3) * pt b3 (cl [.func (.yield l0) #[] #[]] 166) * pt b4 (cl [.int .i64 ws] 3)) (fun j S => ∃ (S1 : SP) (ws : Int), j = .ret ∧ (X S1) ∧ S = S1 * pt b1 (cl [.int .i64 (at_ : Int)] 3) * pt b2 (cl [.int .i64 (n : Int)] 3) * pt b3 (cl [.func (.yield l0) #[] #[]] 166) * pt b4 (cl [.int .i64 ws] 3)) rfl bd156 (units_it (N := ((at_ + n - 1) / 8 - at_ / 8 + 1)) h1 h2 rfl) (fun _ => rfl) rfl (Dr.sat (by repeat (first | with_reducible exact dr_refl | apply dr_keep | apply dr_drop))) (⟨S0, 0, -1, h0, by omega, rfl⟩) ?_ ?_ ?_
  · intro l F i S hi hI
    obtain ⟨S1, c, ws, hi0, hi1, rfl⟩ := hI
    refine tc_eq (by simp only [← star_assoc]; rfl) ?_
    have hcN : (at_ / 8 + i) / 8 - at_ / 64 < N := by omega
    refine tc_env (d := 10) (v := .int .i64 ((at_ / 8 + i : Nat) : Int)) rfl ?_
    refine tc_reg ?_
    refine tl_v rfl (o_assign (by conv => lhs; whnf)) ?_
    refine tl_nil ?_
    refine ⟨S1 * pt b1 (cl [.int .i64 (at_ : Int)] 3) * pt b2 (cl [.int .i64 (n : Int)] 3) * pt b3 (cl [.func (.yield l0) #[] #[]] 166) * pt b4 (cl [.int .i64 ws] 3), fun g w h => by simp only [← star_assoc]; exact Dr.sat (by repeat (first | with_reducible exact dr_refl | apply dr_keep | apply dr_drop)) g w h, fun F => ?_⟩
    refine tc_eq (by simp only [← star_assoc]; rfl) ?_
    refine tc_block ?_
    refine tc_seq ?_
    refine tc_reg ?_
    refine tl_v rfl (o_move (by conv => lhs; whnf)) ?_
    refine tl_v rfl (o_quoN (b := 8) rfl rfl (by omega)) ?_
    refine tl_v rfl (o_assign (by conv => lhs; whnf)) ?_
    refine tl_nil ?_
    refine q_then_n ?_
    refine tc_seq ?_
    refine tc_seq ?_
    refine tc_reg ?_
    refine tl_v rfl (o_move (by conv => lhs; whnf)) ?_
    refine tl_v rfl (by first | exact o_load p3 rfl (by repeat (first | with_reducible exact has_here | with_reducible exact has_pt | apply has_left)) rfl | exact o_loadC p3 rfl (by assumption)) ?_
    refine tl_v rfl (o_nei rfl rfl) ?_
    refine tl_v rfl (o_move (by conv => lhs; whnf)) ?_
    refine tl_bool (d := 16) rfl (fun h => ?_) (fun h => ?_)
    · have hne : (at_ / 8 + i) / 8 = at_ / 64 + c := by simp at h; omega
      refine tl_v rfl (by first | exact o_load p166 rfl (by repeat (first | with_reducible exact has_here | with_reducible exact has_pt | apply has_left)) rfl | exact o_loadC p166 rfl (by assumption)) ?_
      refine tl_v rfl (o_move (by conv => lhs; whnf)) ?_
      refine tl_env (d := 18) (v := .int .i64 ((at_ / 64 + c : Nat) : Int)) (congrArg (fun z : Nat => Value.int .i64 (z : Int)) hne) ?_
      refine tl_y rfl rfl rfl (yd_b (F := F * pt b1 (cl [.int .i64 (at_ : Int)] 3) * pt b2 (cl [.int .i64 (n : Int)] 3) * pt b3 (cl [.func (.yield l0) #[] #[]] 166) * pt b4 (cl [.int .i64 ws] 3)) (G := fun S' => F * S' * pt b1 (cl [.int .i64 (at_ : Int)] 3) * pt b2 (cl [.int .i64 (n : Int)] 3) * pt b3 (cl [.func (.yield l0) #[] #[]] 166) * pt b4 (cl [.int .i64 ws] 3)) (S := S1) (hY _ c S1 (by omega) hi0) (by ac_rfl) (fun S' => by ac_rfl)) ?_
      rintro _ _ ⟨b19, S2, rfl, hT, hF, rfl⟩
      refine tl_v rfl (o_not rfl) ?_
      refine tl_v rfl (o_pick_t rfl (by conv => lhs; whnf)) ?_
      refine tl_nil ?_
      refine q_then_n ?_
      refine tc_cond rfl (fun h => ?_) (fun h => ?_)
      · have hb : b19 = false := by simpa using h
        subst hb
        refine tc_ret ?_
        refine q_then_r (q_block_r ?_)
        exact ⟨(S2) * pt b1 (cl [.int .i64 (at_ : Int)] 3) * pt b2 (cl [.int .i64 (n : Int)] 3) * pt b3 (cl [.func (.yield l0) #[] #[]] 166) * pt b4 (cl [.int .i64 (ws)] 3), fun g w h => by simp only [← star_assoc]; exact Dr.sat (by repeat (first | with_reducible exact dr_refl | apply dr_keep | apply dr_drop)) g w h, S2, ws, rfl, hF rfl, rfl⟩
      · have hb : b19 = true := by simpa using h
        subst hb
        refine tc_skip ?_
        refine q_then_n ?_
        try rw [← hne]
        refine tc_reg ?_
        refine tl_v rfl (o_move (by conv => lhs; whnf)) ?_
        refine tl_u rfl (o_stU rfl (by repeat (first | with_reducible exact upd_here | with_reducible exact upd_pt | apply upd_left)) sz3 rfl rfl (by first | decide | simp | omega) rfl) ?_
        refine tl_nil ?_
        refine q_block_n ?_
        exact ⟨(S2) * pt b1 (cl [.int .i64 (at_ : Int)] 3) * pt b2 (cl [.int .i64 (n : Int)] 3) * pt b3 (cl [.func (.yield l0) #[] #[]] 166) * pt b4 (cl [.int .i64 ((((at_ / 8 + i) / 8 : Nat) : Int))] 3), fun g w h => by simp only [← star_assoc]; exact Dr.sat (by repeat (first | with_reducible exact dr_refl | apply dr_keep | apply dr_drop)) g w h, S2, c + 1, (((at_ / 8 + i) / 8 : Nat) : Int), hT rfl, by omega, rfl⟩
    · have hne : (((at_ / 8 + i) / 8 : Nat) : Int) = ws := by simpa using h
      refine tl_skip rfl ?_
      refine tl_skip rfl ?_
      refine tl_skip rfl ?_
      refine tl_skip rfl ?_
      refine tl_v rfl (o_pick_f rfl (by conv => lhs; whnf)) ?_
      refine tl_nil ?_
      refine q_then_n ?_
      refine tc_cond_f rfl ?_
      refine tc_skip ?_
      refine q_then_n ?_
      try rw [← hne]
      refine tc_reg ?_
      refine tl_v rfl (o_move (by conv => lhs; whnf)) ?_
      refine tl_u rfl (o_stU rfl (by repeat (first | with_reducible exact upd_here | with_reducible exact upd_pt | apply upd_left)) sz3 rfl rfl (by first | decide | simp | omega) rfl) ?_
      refine tl_nil ?_
      refine q_block_n ?_
      exact ⟨(S1) * pt b1 (cl [.int .i64 (at_ : Int)] 3) * pt b2 (cl [.int .i64 (n : Int)] 3) * pt b3 (cl [.func (.yield l0) #[] #[]] 166) * pt b4 (cl [.int .i64 ((((at_ / 8 + i) / 8 : Nat) : Int))] 3), fun g w h => by simp only [← star_assoc]; exact Dr.sat (by repeat (first | with_reducible exact dr_refl | apply dr_keep | apply dr_drop)) g w h, S1, c, (((at_ / 8 + i) / 8 : Nat) : Int), hi0, by omega, rfl⟩
  · intro r S hI
    obtain ⟨S1, c, ws, hi0, hi1, rfl⟩ := hI
    refine q_block_n ?_
    obtain rfl : c = N := by omega
    exact ⟨[r], S1 * pt b1 (cl [.int .i64 (at_ : Int)] 3) * pt b2 (cl [.int .i64 (n : Int)] 3), rfl, fun _ _ h => mk1 (Dr.sat (A' := S1 * pt b1 (cl [.int .i64 (at_ : Int)] 3) * pt b2 (cl [.int .i64 (n : Int)] 3) * pt r mkO) (by repeat (first | with_reducible exact dr_refl | apply dr_keep | apply dr_drop)) _ _ h), .tuple #[], S1 * pt b1 (cl [.int .i64 (at_ : Int)] 3) * pt b2 (cl [.int .i64 (n : Int)] 3), res0 rfl, fun _ _ h => h, rfl, .inl ⟨S1, hi0, rfl⟩⟩
  · intro r j S hX
    obtain ⟨S1, ws, rfl, hx0, rfl⟩ := hX
    refine jmp_r ?_
    refine q_block_r ?_
    exact ⟨[r], S1 * pt b1 (cl [.int .i64 (at_ : Int)] 3) * pt b2 (cl [.int .i64 (n : Int)] 3), rfl, fun _ _ h => mk1 (Dr.sat (A' := S1 * pt b1 (cl [.int .i64 (at_ : Int)] 3) * pt b2 (cl [.int .i64 (n : Int)] 3) * pt r mkO) (by repeat (first | with_reducible exact dr_refl | apply dr_keep | apply dr_drop)) _ _ h), .tuple #[], S1 * pt b1 (cl [.int .i64 (at_ : Int)] 3) * pt b2 (cl [.int .i64 (n : Int)] 3), res0 rfl, fun _ _ h => h, rfl, .inr ⟨S1, hx0, rfl⟩⟩
end Rg
theorem Lines_it {at_ n N b1 b2 : Nat} (h1 : 1 ≤ n) (h2 : at_ + n ≤ 9223372036854775807) (hN : N = (at_ + n - 1) / 64 - at_ / 64 + 1) :
    Rg.It Try.prog 152 [] [.pointer (some ⟨b1, 0, none⟩), .pointer (some ⟨b2, 0, none⟩)] (pt b1 (cl [.int .i64 (at_ : Int)] 3) * pt b2 (cl [.int .i64 (n : Int)] 3)) N (fun i => [.int .i64 ((at_ / 64 + i : Nat) : Int)]) := fun l J X S0 h0 hY => by
  have hk : ∀ S : SP, S * (pt b1 (cl [.int .i64 (at_ : Int)] 3) * pt b2 (cl [.int .i64 (n : Int)] 3)) = S * pt b1 (cl [.int .i64 (at_ : Int)] 3) * pt b2 (cl [.int .i64 (n : Int)] 3) := fun S => star2' _ _ _
  rw [hk S0]
  refine (Rg.Lines1_f (J := J) (X := X) h1 h2 hN h0 hY).mono ?_
  rintro v B ⟨rfl, ⟨S, hS, rfl⟩ | ⟨S, hS, rfl⟩⟩
  · exact ⟨rfl, .inl ⟨S, hS, (hk S).symm⟩⟩
  · exact ⟨rfl, .inr ⟨S, hS, (hk S).symm⟩⟩
theorem Lines_c {A : SP} {at_ n : Nat} :
    Fn Try.prog 144 #[.int .i64 (at_ : Nat), .int .i64 (n : Nat)] (A) (fun r B => ∃ b1 b2, r = .func (.func 152) #[] #[.pointer (some ⟨b1, 0, none⟩), .pointer (some ⟨b2, 0, none⟩)] ∧ B = A * (pt b1 (cl [.int .i64 (at_ : Int)] 3) * pt b2 (cl [.int .i64 (n : Int)] 3))) := by
  refine fn_enterW (args := [.int .i64 (at_ : Nat), .int .i64 (n : Nat)]) Try.func144 rfl Try.ntmps144 (by simp) ?_
  refine tc_seq ?_
  refine tc_reg ?_
  refine tl_x rfl (o_box rfl rfl) ?_
  rintro _ _ ⟨b2, rfl, rfl⟩
  refine tl_x rfl (o_box rfl rfl) ?_
  rintro _ _ ⟨b3, rfl, rfl⟩
  refine tl_v rfl (o_assign (by conv => lhs; whnf)) ?_
  refine tl_nil ?_
  refine q_then_n ?_
  refine tc_seq ?_
  refine tc_reg ?_
  refine tl_v rfl (o_makeFunc rfl rfl) ?_
  refine tl_v rfl (o_assign (by conv => lhs; whnf)) ?_
  refine tl_nil ?_
  refine q_then_n ?_
  refine tc_ret ?_
  exact ⟨_, _, res1 rfl rfl, fun _ _ h => h, b2, b3, rfl, (star2' _ _ _).symm⟩
end Go.Vl

set_option linter.unusedVariables false
set_option linter.unusedSimpArgs false
namespace Go.Vl
open Go Go.Proofs
theorem ct_wf2 {A R : SP} {C : SP → SP} {d : Nat} {s : DevS} (hc : Ct A (Dev d s) R C) {g : Gh} {w : World} (hs : sat g w A) : WfD s := by
  obtain ⟨rfl, _⟩ := hc; exact (dev_iff.1 hs).1
theorem doneS_len (s : DevS) : (doneS s).ls.length = s.ls.length := by
  unfold doneS
  split
  · rfl
  · split
    · rfl
    · simp [goesS, goPart_length]
theorem fl1_len (p : Int) (s : DevS) : (fl1 p s).2.ls.length = s.ls.length := by
  unfold fl1
  split
  · rfl
  · rw [doneS_len]; exact (onLine_fields _ _ s).2.2.2.2
/-- Lines are flushed, one behind the other; then the fence. -/
def flF : Nat → Nat → DevS → Int × DevS
  | 0, _, s => fe s
  | k + 1, q, s => if (fl1 ((q * 64 : Nat) : Int) s).1 ≠ 0 then fl1 ((q * 64 : Nat) : Int) s else flF k (q + 1) (fl1 ((q * 64 : Nat) : Int) s).2
theorem flF_zero (q : Nat) (s : DevS) : flF 0 q s = fe s := rfl
theorem flF_e {N i q : Nat} {s s2 : DevS} {e : Int} (hi : i < N) (h : fl1 (((q + i) * 64 : Nat) : Int) s = (e, s2)) (he : e ≠ 0) : flF (N - i) (q + i) s = (e, s2) := by
  rw [show N - i = (N - (i + 1)) + 1 by omega]
  show (if _ then _ else _) = _
  rw [h, if_pos he]
theorem flF_o {N i q : Nat} {s s2 : DevS} (hi : i < N) (h : fl1 (((q + i) * 64 : Nat) : Int) s = (0, s2)) : flF (N - i) (q + i) s = flF (N - (i + 1)) (q + (i + 1)) s2 := by
  rw [show N - i = (N - (i + 1)) + 1 by omega]
  show (if _ then _ else _) = _
  rw [h, if_neg (by simp)]; rfl
/-- A range is made to last. -/
def lastS (p m : Nat) (s : DevS) : Int × DevS := flF ((p + m - 1) / 64 - p / 64 + 1) (p / 64) s
attribute [local irreducible] Sl pt ro Dev imgS
namespace Rg
theorem last_c {A R : SP} {C : SP → SP} {d : Nat} {s : DevS} (hc : Ct A (Dev d s) R C := by repeat (first | with_reducible exact ct_here | apply ct_left)) {p m : Nat} (h1 : 1 ≤ m := by omega) (hpm : p + m ≤ s.ls.length * 64 := by omega) :
    Fn Try.prog 120 #[.pointer (some ⟨d, 0, none⟩), .int .i64 (p : Nat), .int .i64 (m : Nat)] (A) (fun r B => ∃ e s2, lastS p m s = (e, s2) ∧ r = .int .i64 e ∧ B = C (Dev d s2)) := by
  refine fn_enterW (args := [.pointer (some ⟨d, 0, none⟩), .int .i64 (p : Nat), .int .i64 (m : Nat)]) Try.func120 rfl Try.ntmps120 (by simp) ?_
  refine tc_have (fun _ _ h => ct_wf2 hc h) fun hw => ?_
  obtain ⟨rfl, hC⟩ := hc
  have htop := hw.top
  refine tc_seq ?_
  refine tc_reg ?_
  refine tl_x rfl (o_alloc z24 rfl) ?_
  rintro _ _ ⟨b6, rfl, rfl⟩
  refine tl_nil ?_
  refine q_then_n ?_
  refine tc_seq ?_
  refine tc_reg ?_
  refine tl_v rfl (o_move (by conv => lhs; whnf)) ?_
  refine tl_v rfl (o_makeFunc rfl rfl) ?_
  refine tl_x rfl (o_alloc z190 rfl) ?_
  rintro _ _ ⟨b7, rfl, rfl⟩
  refine tl_u rfl (o_stU rfl (by repeat (first | with_reducible exact upd_here | with_reducible exact upd_pt | apply upd_left)) sz190 rfl rfl (by first | decide | simp | omega) rfl) ?_
  refine tl_nil ?_
  refine q_then_n ?_
  refine tc_seq ?_
  refine tc_seq ?_
  refine tc_reg ?_
  refine tl_v rfl (o_move (by conv => lhs; whnf)) ?_
  refine tl_v rfl (o_move (by conv => lhs; whnf)) ?_
  refine tl_c rfl (o_call bd144 rfl (Lines_c)) ?_
  rintro _ _ ⟨w1, w2, rfl, rfl⟩
  refine tl_nil ?_
  refine q_then_n ?_
  refine tc_block ?_
  refine tc_rangeI (K := (pt w1 (cl [.int .i64 (p : Int)] 3) * pt w2 (cl [.int .i64 (m : Int)] 3))) (N := ((p + m - 1) / 64 - p / 64 + 1)) (A0 := R * Dev d s * pt b6 (cl [.int .i64 0] 24) * pt b7 (cl [.func (.func 87) #[.pointer (some ⟨d, 0, none⟩)] #[]] 190)) (fun i S => ∃ (s1 : DevS), (flF (((p + m - 1) / 64 - p / 64 + 1) - i) (p / 64 + i) s1 = flF ((p + m - 1) / 64 - p / 64 + 1) (p / 64) s) ∧ (s1.ls.length = s.ls.length) ∧ S = R * Dev d s1 * pt b6 (cl [.int .i64 0] 24) * pt b7 (cl [.func (.func 87) #[.pointer (some ⟨d, 0, none⟩)] #[]] 190)) (fun j S => ∃ (e : Int) (s1 : DevS), j = .ret ∧ (flF ((p + m - 1) / 64 - p / 64 + 1) (p / 64) s = (e, s1)) ∧ S = R * Dev d s1 * pt b6 (cl [.int .i64 e] 24) * pt b7 (cl [.func (.func 87) #[.pointer (some ⟨d, 0, none⟩)] #[]] 190)) rfl bd152 (Lines_it (N := ((p + m - 1) / 64 - p / 64 + 1)) h1 (by omega) rfl) (fun _ => rfl) rfl (Dr.sat (by repeat (first | with_reducible exact dr_refl | apply dr_keep | apply dr_drop))) (⟨s, rfl, rfl, rfl⟩) ?_ ?_ ?_
  · intro l F i S hi hI
    obtain ⟨s1, hi0, hi1, rfl⟩ := hI
    refine tc_eq (by simp only [← star_assoc]; rfl) ?_
    refine tc_env (d := 15) (v := .int .i64 ((p / 64 + i : Nat) : Int)) rfl ?_
    refine tc_reg ?_
    refine tl_v rfl (o_assign (by conv => lhs; whnf)) ?_
    refine tl_nil ?_
    refine ⟨R * Dev d s1 * pt b6 (cl [.int .i64 0] 24) * pt b7 (cl [.func (.func 87) #[.pointer (some ⟨d, 0, none⟩)] #[]] 190), fun g w h => by simp only [← star_assoc]; exact Dr.sat (by repeat (first | with_reducible exact dr_refl | apply dr_keep | apply dr_drop)) g w h, fun F => ?_⟩
    refine tc_eq (by simp only [← star_assoc]; rfl) ?_
    refine tc_block ?_
    refine tc_seq ?_
    refine tc_reg ?_
    refine tl_v rfl (by first | exact o_load p190 rfl (by repeat (first | with_reducible exact has_here | with_reducible exact has_pt | apply has_left)) rfl | exact o_loadC p190 rfl (by assumption)) ?_
    refine tl_v rfl (o_move (by conv => lhs; whnf)) ?_
    refine tl_v rfl (by first | exact o_mulI rfl rfl (by omega) | exact o_mul rfl rfl) ?_
    refine tl_env (d := 18) (v := .int .i64 (((p / 64 + i) * 64 : Nat) : Int)) (rfl) ?_
    refine tl_c rfl (o_dyn bd87 rfl rfl (Flush_c (s := s1) (p := (((p / 64 + i) * 64 : Nat) : Int)))) ?_
    rintro _ _ ⟨e19, s19, hs19, rfl, rfl⟩
    refine tl_v rfl (o_assign (by conv => lhs; whnf)) ?_
    refine tl_nil ?_
    refine q_then_n ?_
    refine tc_seq ?_
    refine tc_reg ?_
    refine tl_v rfl (o_move (by conv => lhs; whnf)) ?_
    refine tl_v rfl (o_nei rfl rfl) ?_
    refine tl_nil ?_
    refine q_then_n ?_
    refine tc_cond rfl (fun h => ?_) (fun h => ?_)
    · have h : e19 ≠ 0 := by simpa using h
      refine tc_seq ?_
      refine tc_reg ?_
      refine tl_v rfl (o_move (by conv => lhs; whnf)) ?_
      refine tl_u rfl (o_stU rfl (by repeat (first | with_reducible exact upd_here | with_reducible exact upd_pt | apply upd_left)) sz24 rfl rfl (by first | decide | simp | omega) rfl) ?_
      refine tl_nil ?_
      refine q_then_n ?_
      refine tc_ret ?_
      refine q_block_r ?_
      exact ⟨R * Dev d (s19) * pt b6 (cl [.int .i64 (e19)] 24) * pt b7 (cl [.func (.func 87) #[.pointer (some ⟨d, 0, none⟩)] #[]] 190), fun g w h => by simp only [← star_assoc]; exact Dr.sat (by repeat (first | with_reducible exact dr_refl | apply dr_keep | apply dr_drop)) g w h, e19, s19, rfl, by rw [← hi0]; exact flF_e hi hs19 h, rfl⟩
    · obtain rfl : e19 = 0 := by simpa using h
      refine tc_skip ?_
      refine q_block_n ?_
      exact ⟨R * Dev d (s19) * pt b6 (cl [.int .i64 0] 24) * pt b7 (cl [.func (.func 87) #[.pointer (some ⟨d, 0, none⟩)] #[]] 190), fun g w h => by simp only [← star_assoc]; exact Dr.sat (by repeat (first | with_reducible exact dr_refl | apply dr_keep | apply dr_drop)) g w h, s19, by rw [← hi0]; exact (flF_o hi hs19).symm, by have := fl1_len (((p / 64 + i) * 64 : Nat) : Int) s1; rw [hs19] at this; exact this.trans hi1, rfl⟩
  · intro r S hI
    obtain ⟨s1, hi0, hi1, rfl⟩ := hI
    refine q_block_n (q_then_n ?_)
    refine tc_seq ?_
    refine tc_reg ?_
    refine tl_v rfl (o_move (by conv => lhs; whnf)) ?_
    refine tl_c rfl (o_call bd47 rfl (Fence_c (s := s1))) ?_
    rintro _ _ ⟨e24, s24, hs24, rfl, rfl⟩
    have hlast : lastS p m s = (e24, s24) := by show flF _ _ _ = _; rw [← hi0, Nat.sub_self]; exact hs24
    refine tl_u rfl (o_stU rfl (by repeat (first | with_reducible exact upd_here | with_reducible exact upd_pt | apply upd_left)) sz24 rfl rfl (by first | decide | simp | omega) rfl) ?_
    refine tl_nil ?_
    refine q_then_n ?_
    refine tc_ret ?_
    exact ⟨[r], R * Dev d s24 * pt b6 (cl [.int .i64 e24] 24), rfl, fun _ _ h => mk1 (Dr.sat (A' := R * Dev d s24 * pt b6 (cl [.int .i64 e24] 24) * pt r mkO) (by repeat (first | with_reducible exact dr_refl | apply dr_keep | apply dr_drop)) _ _ h), .int .i64 e24, C (Dev d s24), resA1 rfl (rv_cell1 p24 rfl (by repeat (first | with_reducible exact has_here | with_reducible exact has_pt | apply has_left)) rfl), fun _ _ h => by rw [hC]; exact h.left, e24, s24, hlast, rfl, rfl⟩
  · intro r j S hX
    obtain ⟨e, s1, rfl, hx0, rfl⟩ := hX
    refine jmp_r ?_
    refine q_block_r (q_then_r ?_)
    exact ⟨[r], R * Dev d s1 * pt b6 (cl [.int .i64 e] 24), rfl, fun _ _ h => mk1 (Dr.sat (A' := R * Dev d s1 * pt b6 (cl [.int .i64 e] 24) * pt r mkO) (by repeat (first | with_reducible exact dr_refl | apply dr_keep | apply dr_drop)) _ _ h), .int .i64 e, C (Dev d s1), resA1 rfl (rv_cell1 p24 rfl (by repeat (first | with_reducible exact has_here | with_reducible exact has_pt | apply has_left)) rfl), fun _ _ h => by rw [hC]; exact h.left, e, s1, hx0, rfl, rfl⟩
end Rg
end Go.Vl

set_option linter.unusedVariables false
set_option linter.unusedSimpArgs false
namespace Go.Vl
open Go Go.Proofs
def insB (n : Nat) (p m : Int) : Bool := decide (0 ≤ p ∧ 0 ≤ m ∧ p ≤ (n : Int) * 64 ∧ m ≤ (n : Int) * 64 - p)
theorem stE_off {s : DevS} (h : stE s ≠ 0) : s.off = true := by
  unfold stE at h; by_cases e : s.off = true
  · exact e
  · rw [if_neg e] at h; exact absurd rfl h
theorem stE_on {s : DevS} (h : stE s = 0) : s.off = false := by
  unfold stE at h; by_cases e : s.off = true
  · rw [if_pos e] at h; exact absurd h (by decide)
  · simpa using e
theorem layS_len' (p v : Nat) (s : DevS) : (layS p v s).ls.length = s.ls.length := (onLine_fields _ _ s).2.2.2.2
theorem storeF_len : ∀ (f p : Nat) (b : List Nat) (s : DevS), (storeF f p b s).2.ls.length = s.ls.length
  | 0, _, _, _ => rfl
  | f + 1, p, b, s => by
    unfold storeF
    split
    · rfl
    · split
      · rw [doneS_len, layS_len']
      · rw [storeF_len, doneS_len, layS_len']
theorem sto_len (p : Int) (b : List Nat) (s : DevS) : (sto p b s).2.ls.length = s.ls.length := by
  unfold sto
  split
  · rfl
  · exact storeF_len _ _ _ _
theorem sto_rdy {p : Int} {b : List Nat} {s : DevS} (h : (sto p b s).1 = 0) : rdy s.ls.length s.off p b.length = 0 := by
  unfold sto at h
  split at h
  · exact h
  · rename_i h2; exact Classical.not_not.1 h2
/-- What Range, Bytes, Publish answer, and the device behind them. -/
def rangeP (p m : Int) (s : DevS) : Int × DevS := if s.off = true then (5, s) else if m < 1 then (0, s) else if rdy s.ls.length false p m ≠ 0 then (6, s) else lastS p.toNat m.toNat s
def bytesP (p : Int) (b : List Nat) (s : DevS) : Int × DevS := if s.off = true then (5, s) else if b = [] then (0, s) else if (sto p b s).1 ≠ 0 then sto p b s else lastS p.toNat b.length (sto p b s).2
def pubP (p : Int) (v : Nat) (s : DevS) : Int × DevS := if (st8 p v s).1 ≠ 0 then st8 p v s else lastS p.toNat 8 (st8 p v s).2
/-- A number of n bytes that is told. -/
def loadP (p : Int) (n : Nat) (s : DevS) : Nat × Int := if rdy s.ls.length s.off p n ≠ 0 then (0, rdy s.ls.length s.off p n) else (nm (((imgS s).drop p.toNat).take n), 0)
def wordP (p : Int) (s : DevS) : Nat × Int := if s.off = true then (0, 5) else if p % 8 ≠ 0 then (0, 6) else loadP p 8 s
attribute [local irreducible] Sl pt ro Dev imgS
theorem Bytes_c {A R : SP} {C : SP → SP} {d : Nat} {s : DevS} (hc : Ct A (Dev d s) R C := by repeat (first | with_reducible exact ct_here | apply ct_left)) {a : Option Addr} {c m : Nat} {p : Int} {xs : List Nat} (hr : Rs R a (bys xs) := by repeat (first | assumption | with_reducible exact rs_sl | with_reducible exact rs_pt0 | exact rs_none | apply Rs.left)) (hm : xs.length = m := by first | assumption | rfl) (hmc : m ≤ c := by first | assumption | omega) (hb : ∀ x ∈ xs, x < 256 := by assumption) (hml : m ≤ 140737488351232 := by omega) (hp : -9223372036854775808 ≤ p ∧ p ≤ 9223372036854775807 := by omega) (hroom : rdy s.ls.length s.off p m = 0 → Room m s := by assumption) :
    Fn Try.prog 56 #[.pointer (some ⟨d, 0, none⟩), .int .i64 p, .slice a m c] (A) (fun r B => ∃ e s2, bytesP p xs s = (e, s2) ∧ r = .int .i64 e ∧ B = C (Dev d s2)) := by
  refine fn_enterW (args := [.pointer (some ⟨d, 0, none⟩), .int .i64 p, .slice a m c]) Try.func56 rfl Try.ntmps56 (by simp) ?_
  refine tc_have (fun _ _ h => ct_wf2 hc h) fun hw => ?_
  obtain ⟨rfl, hC⟩ := hc
  have htop := hw.top
  have hpos := hw.pos
  have hAC : ∀ g w, sat g w (R * Dev d s) → sat g w (C (Dev d s)) := fun g w h => by rw [hC]; exact h
  subst hm
  refine tc_seq ?_
  refine tc_reg ?_
  refine tl_v rfl (o_assign (by conv => lhs; whnf)) ?_
  refine tl_nil ?_
  refine q_then_n ?_
  refine tc_seq ?_
  refine tc_seq ?_
  refine tc_reg ?_
  refine tl_v rfl (o_move (by conv => lhs; whnf)) ?_
  refine tl_c rfl (o_call bd119 rfl (alive_c (s := s))) ?_
  rintro _ _ ⟨rfl, rfl⟩
  refine tl_v rfl (o_assign (by conv => lhs; whnf)) ?_
  refine tl_nil ?_
  refine q_then_n ?_
  refine tc_seq ?_
  refine tc_reg ?_
  refine tl_v rfl (o_move (by conv => lhs; whnf)) ?_
  refine tl_v rfl (o_nei rfl rfl) ?_
  refine tl_nil ?_
  refine q_then_n ?_
  refine tc_cond rfl (fun h => ?_) (fun h => ?_)
  · try simp only [decide_eq_true_eq, decide_eq_false_iff_not, Bool.not_eq_true', Bool.not_eq_false', Option.isNone_some, Option.isNone_none, Bool.not_true, Bool.not_false] at h
    refine tc_seq ?_
    refine tc_reg ?_
    refine tl_v rfl (o_move (by conv => lhs; whnf)) ?_
    refine tl_v rfl (o_assign (by conv => lhs; whnf)) ?_
    refine tl_nil ?_
    refine q_then_n ?_
    refine tc_ret ?_
    refine q_then_r ?_
    exact ⟨.int .i64 (stE s), C (Dev d s), res1 rfl rfl, hAC, stE s, s, by have ho := stE_off h; unfold bytesP stE; rw [if_pos ho, if_pos ho], rfl, rfl⟩
  · have ho : s.off = false := stE_on (by simpa using h)
    refine tc_skip ?_
    refine q_then_n ?_
    refine tc_seq ?_
    refine tc_seq ?_
    refine tc_reg ?_
    refine tl_v rfl (o_move (by conv => lhs; whnf)) ?_
    refine tl_v rfl (o_len Try.underlying28 rfl) ?_
    refine tl_v rfl (o_eqi rfl rfl) ?_
    refine tl_nil ?_
    refine q_then_n ?_
    refine tc_cond rfl (fun h => ?_) (fun h => ?_)
    · try simp only [decide_eq_true_eq, decide_eq_false_iff_not, Bool.not_eq_true', Bool.not_eq_false', Option.isNone_some, Option.isNone_none, Bool.not_true, Bool.not_false] at h
      refine tc_seq ?_
      refine tc_reg ?_
      refine tl_v rfl (o_assign (by conv => lhs; whnf)) ?_
      refine tl_nil ?_
      refine q_then_n ?_
      refine tc_ret ?_
      refine q_then_r ?_
      exact ⟨.int .i64 0, C (Dev d s), res1 rfl rfl, hAC, 0, s, by unfold bytesP; rw [if_neg (by rw [ho]; decide), if_pos (List.eq_nil_of_length_eq_zero (by omega))], rfl, rfl⟩
    · have hne : xs ≠ [] := fun e => by subst e; simp at h
      have hl1 : 1 ≤ xs.length := List.length_pos_iff.2 hne
      refine tc_skip ?_
      refine q_then_n ?_
      refine tc_seq ?_
      refine tc_seq ?_
      refine tc_reg ?_
      refine tl_v rfl (o_move (by conv => lhs; whnf)) ?_
      refine tl_v rfl (o_move (by conv => lhs; whnf)) ?_
      refine tl_v rfl (o_move (by conv => lhs; whnf)) ?_
      refine tl_c rfl (o_call bd43 rfl (Store_c (s := s) (p := p) (xs := xs) (hr := hr) (hmc := hmc))) ?_
      rintro _ _ ⟨e20, s20, hs20, rfl, rfl⟩
      refine tl_v rfl (o_assign (by conv => lhs; whnf)) ?_
      refine tl_nil ?_
      refine q_then_n ?_
      refine tc_seq ?_
      refine tc_reg ?_
      refine tl_v rfl (o_move (by conv => lhs; whnf)) ?_
      refine tl_v rfl (o_nei rfl rfl) ?_
      refine tl_nil ?_
      refine q_then_n ?_
      refine tc_cond rfl (fun h => ?_) (fun h => ?_)
      · try simp only [decide_eq_true_eq, decide_eq_false_iff_not, Bool.not_eq_true', Bool.not_eq_false', Option.isNone_some, Option.isNone_none, Bool.not_true, Bool.not_false] at h
        refine tc_seq ?_
        refine tc_reg ?_
        refine tl_v rfl (o_move (by conv => lhs; whnf)) ?_
        refine tl_v rfl (o_assign (by conv => lhs; whnf)) ?_
        refine tl_nil ?_
        refine q_then_n ?_
        refine tc_ret ?_
        refine q_then_r ?_
        exact ⟨.int .i64 e20, C (Dev d s20), res1 rfl rfl, fun _ _ h => by rw [hC]; exact h, e20, s20, by unfold bytesP; rw [if_neg (by rw [ho]; decide), if_neg hne, hs20, if_pos (by simpa using h)], rfl, rfl⟩
      · obtain rfl : e20 = 0 := by simpa using h
        have hrd := rdy0 (sto_rdy (by rw [hs20]))
        have hsl := sto_len p xs s
        rw [hs20] at hsl
        simp only at hsl
        obtain ⟨q, rfl⟩ := Int.eq_ofNat_of_zero_le hrd.2.1
        refine tc_skip ?_
        refine q_then_n ?_
        refine tc_seq ?_
        refine tc_reg ?_
        refine tl_v rfl (o_move (by conv => lhs; whnf)) ?_
        refine tl_v rfl (o_move (by conv => lhs; whnf)) ?_
        refine tl_v rfl (o_move (by conv => lhs; whnf)) ?_
        refine tl_v rfl (o_len Try.underlying28 rfl) ?_
        refine tl_c rfl (o_call bd120 rfl (Rg.last_c (s := s20) (p := q) (m := xs.length))) ?_
        rintro _ _ ⟨e28, s28, hs28, rfl, rfl⟩
        refine tl_v rfl (o_assign (by conv => lhs; whnf)) ?_
        refine tl_nil ?_
        refine q_then_n ?_
        refine tc_ret ?_
        exact ⟨.int .i64 e28, C (Dev d s28), res1 rfl rfl, fun _ _ h => by rw [hC]; exact h, e28, s28, by unfold bytesP; rw [if_neg (by rw [ho]; decide), if_neg hne, hs20, if_neg (by simp)]; exact hs28, rfl, rfl⟩
end Go.Vl

set_option linter.unusedVariables false
set_option linter.unusedSimpArgs false
namespace Go.Vl
open Go Go.Proofs
/-- v is no device: nil, or one that no call has made. -/
def NoD (A : SP) (v : Value) : Prop := v = .pointer none ∨ ∃ b, v = .pointer (some ⟨b, 0, none⟩) ∧ Cell A b 0 (.slice none 0 0)
theorem NoD.left {A X : SP} {v : Value} (h : NoD A v) : NoD (A * X) v := h.imp id fun ⟨b, e, hc⟩ => ⟨b, e, hc.left⟩
theorem FromNo_c {A : SP} {a : Option Addr} {m c : Nat} (hno : fitsB (m : Nat) = false := by decide) (hm : m ≤ 140737488351232 := by omega) :
    Fn Try.prog 42 #[.slice a m c] (A) (fun r B => r = .tuple #[.pointer none, .int .i64 80] ∧ A = B) := by
  refine fn_enterW (args := [.slice a m c]) Try.func42 rfl Try.ntmps42 (by simp) ?_
  refine tc_seq ?_
  refine tc_reg ?_
  refine tl_v rfl (o_assign (by conv => lhs; whnf)) ?_
  refine tl_v rfl (o_assign (by conv => lhs; whnf)) ?_
  refine tl_nil ?_
  refine q_then_n ?_
  refine tc_seq ?_
  refine tc_reg ?_
  refine tl_v rfl (o_move (by conv => lhs; whnf)) ?_
  refine tl_v rfl (o_len Try.underlying28 rfl) ?_
  refine tl_c rfl (o_call bd51 rfl (NewNo_c)) ?_
  rintro _ _ ⟨rfl, rfl⟩
  refine tl_v rfl (o_move (by conv => lhs; whnf)) ?_
  refine tl_v rfl (o_extract rfl rfl) ?_
  refine tl_v rfl (o_extract rfl rfl) ?_
  refine tl_v rfl (o_assign (by conv => lhs; whnf)) ?_
  refine tl_v rfl (o_assign (by conv => lhs; whnf)) ?_
  refine tl_nil ?_
  refine q_then_n ?_
  refine tc_seq ?_
  refine tc_seq ?_
  refine tc_reg ?_
  refine tl_v rfl (o_move (by conv => lhs; whnf)) ?_
  refine tl_v rfl (o_nei rfl rfl) ?_
  refine tl_nil ?_
  refine q_then_n ?_
  refine tc_cond rfl (fun h => ?_) (fun h => ?_)
  · try simp only [decide_eq_true_eq, decide_eq_false_iff_not, Bool.not_eq_true', Bool.not_eq_false', Option.isNone_some, Option.isNone_none, Bool.not_true, Bool.not_false] at h
    refine tc_seq ?_
    refine tc_reg ?_
    refine tl_v rfl (o_move (by conv => lhs; whnf)) ?_
    refine tl_v rfl (o_assign (by conv => lhs; whnf)) ?_
    refine tl_v rfl (o_assign (by conv => lhs; whnf)) ?_
    refine tl_nil ?_
    refine q_then_n ?_
    refine tc_ret ?_
    refine q_then_r ?_
    exact ⟨_, _, res2 rfl rfl rfl, fun _ _ h => h, rfl, rfl⟩
  · (exfalso; first | (revert h; simp; done) | (simp at h; done) | (revert h; simp; omega) | (simp at h; omega) | omega)
end Go.Vl

set_option linter.unusedVariables false
set_option linter.unusedSimpArgs false
namespace Go.Vl
open Go Go.Proofs
theorem img_lt {s : DevS} : ∀ x ∈ imgS s, x < 256 := fun x hx => by
  unfold imgS img at hx
  obtain ⟨l, _, h⟩ := List.mem_flatMap.1 hx
  unfold lb at h
  obtain ⟨v, _, h⟩ := List.mem_flatMap.1 h
  exact le_bytes _ _ _ h
theorem imgS_len {s : DevS} (hw : WfD s) : (imgS s).length = s.ls.length * 64 := img_length hw.line
theorem img_sub {s : DevS} {p n : Nat} : ∀ x ∈ ((imgS s).drop p).take n, x < 256 := fun x hx => img_lt x (List.mem_of_mem_drop (List.mem_of_mem_take hx))
theorem nm_take0 (xs : List Nat) (n : Nat) : nm (((xs.take n).drop 0).take n) = nm (xs.take n) := by rw [List.drop_zero, List.take_take, Nat.min_self]
attribute [local irreducible] Sl pt ro Dev imgS
set_option maxRecDepth 20000 in
set_option maxHeartbeats 1000000 in
theorem FL64_ok {A R : SP} {C : SP → SP} {d : Nat} {s : DevS} (hc : Ct A (Dev d s) R C := by repeat (first | with_reducible exact ct_here | apply ct_left)) {p : Nat} (hoff : s.off = false) (hpm : p + 8 ≤ s.ls.length * 64) :
    Fn Try.prog 62 #[.agg [Value.int .i64 (p : Nat)].toArray, .pointer (some ⟨d, 0, none⟩)] (A) (fun r B => r = .tuple #[.int .u64 ((nm (((imgS s).drop p).take 8) : Nat) : Int), .int .i64 0] ∧ A = B) := by
  refine fn_enterW (args := [.agg [Value.int .i64 (p : Nat)].toArray, .pointer (some ⟨d, 0, none⟩)]) Try.func62 rfl Try.ntmps62 (by simp) ?_
  refine tc_have (fun _ _ h => ct_wf2 hc h) fun hw => ?_
  obtain ⟨rfl, hC⟩ := hc
  have htop := hw.top
  have hil : (imgS s).length = s.ls.length * 64 := imgS_len hw
  have hI : (((imgS s).drop p).take 8).length = 8 := by rw [List.length_take, List.length_drop]; omega
  have hIb := img_sub (s := s) (p := p) (n := 8)
  refine tc_seq ?_
  refine tc_reg ?_
  refine tl_x rfl (o_box rfl rfl) ?_
  rintro _ _ ⟨b2, rfl, rfl⟩
  refine tl_v rfl (o_assign (by conv => lhs; whnf)) ?_
  refine tl_v rfl (o_assign (by conv => lhs; whnf)) ?_
  refine tl_nil ?_
  refine q_then_n ?_
  refine tc_seq ?_
  refine tc_reg ?_
  refine tl_v rfl (o_assign (by conv => lhs; whnf)) ?_
  refine tl_nil ?_
  refine q_then_n ?_
  refine tc_seq ?_
  refine tc_regh mo dr_refl ?_
  show TH _ _ _ _ _ 12 #[false, false, false, false, false, false, false, false, false, false, false, false] _ _
  refine th_take (i := 0) (listed' := #[true, false, false, false, false, false, false, false, false, false, false, false]) rfl (by kernel_rfl) (by kernel_rfl) (by kernel_rfl) rfl rfl (o_move (by conv => lhs; whnf)) ?_
  refine th_take (i := 1) (listed' := #[true, true, false, false, false, false, false, false, false, false, false, false]) rfl (by kernel_rfl) (by kernel_rfl) (by kernel_rfl) rfl rfl (o_fieldAddr (o := 0) Try.underlying117 rfl rfl sz3 rfl) ?_
  refine th_take (i := 2) (listed' := #[true, true, true, false, false, false, false, false, false, false, false, false]) rfl (by kernel_rfl) (by kernel_rfl) (by kernel_rfl) rfl rfl (by first | exact o_load p3 rfl (by repeat (first | with_reducible exact has_here | with_reducible exact has_pt | apply has_left)) rfl | exact o_loadC p3 rfl (by assumption)) ?_
  refine th_take (i := 3) (listed' := #[true, true, true, true, false, false, false, false, false, false, false, false]) rfl (by kernel_rfl) (by kernel_rfl) (by kernel_rfl) rfl rfl (o_move (by conv => lhs; whnf)) ?_
  refine th_one (i := 4) (by kernel_rfl) ?_
  refine oh_c (i := 4) (listed' := #[true, true, true, true, true, false, false, false, false, false, false, false]) rfl rfl rfl (o_call bd99 rfl (Put64_c (xs := []) (v := 0))) ?_
  rintro _ _ ⟨a14, c14, rfl, hc14, rfl⟩
  refine ⟨by repeat (first | with_reducible exact dr_refl | apply dr_keep | apply dr_drop), ?_⟩
  refine th_take (i := 5) (listed' := #[true, true, true, true, true, true, false, false, false, false, false, false]) rfl (by kernel_rfl) (by kernel_rfl) (by kernel_rfl) rfl rfl (o_len Try.underlying28 rfl) ?_
  refine th_one (i := 6) (by kernel_rfl) ?_
  refine oh_c (i := 6) (listed' := #[true, true, true, true, true, true, true, false, false, false, false, false]) rfl rfl rfl (o_call bd27 rfl (Load_c (s := s) (p := p) (m := 8))) ?_
  rintro _ _ ⟨a16, c16, rfl, hc16, rfl⟩
  refine ⟨by repeat (first | with_reducible exact dr_refl | apply dr_keep | apply dr_drop), ?_⟩
  refine th_take (i := 7) (listed' := #[true, true, true, true, true, true, true, true, false, false, false, false]) rfl (by kernel_rfl) (by kernel_rfl) (by kernel_rfl) rfl rfl (o_move (by conv => lhs; whnf)) ?_
  refine th_take (i := 8) (listed' := #[true, true, true, true, true, true, true, true, true, false, false, false]) rfl (by kernel_rfl) (by kernel_rfl) (by kernel_rfl) rfl rfl (o_extract rfl rfl) ?_
  refine th_take (i := 9) (listed' := #[true, true, true, true, true, true, true, true, true, true, false, false]) rfl (by kernel_rfl) (by kernel_rfl) (by kernel_rfl) rfl rfl (o_extract rfl rfl) ?_
  refine th_take (i := 10) (listed' := #[true, true, true, true, true, true, true, true, true, true, true, false]) rfl (by kernel_rfl) (by kernel_rfl) (by kernel_rfl) rfl rfl (o_assign (by conv => lhs; whnf)) ?_
  refine th_take (i := 11) (listed' := #[true, true, true, true, true, true, true, true, true, true, true, true]) rfl (by kernel_rfl) (by kernel_rfl) (by kernel_rfl) rfl rfl (o_assign (by conv => lhs; whnf)) ?_
  refine th_done (by kernel_rfl) ?_
  refine q_then_n ?_
  refine tc_seq ?_
  refine tc_seq ?_
  refine tc_reg ?_
  refine tl_v rfl (o_move (by conv => lhs; whnf)) ?_
  refine tl_v rfl (o_nei rfl rfl) ?_
  refine tl_nil ?_
  refine q_then_n ?_
  refine tc_cond rfl (fun h => ?_) (fun h => ?_)
  · exfalso; simp at h
  · try simp only [decide_eq_true_eq, decide_eq_false_iff_not, Bool.not_eq_true', Bool.not_eq_false', Option.isNone_some, Option.isNone_none, Bool.not_true, Bool.not_false] at h
    refine tc_skip ?_
    refine q_then_n ?_
    refine tc_seq ?_
    refine tc_reg ?_
    refine tl_v rfl (o_move (by conv => lhs; whnf)) ?_
    refine tl_c rfl (o_call bd98 rfl (Take64_c (xs := ((imgS s).drop p).take 8) (p := 0) (hm := hI))) ?_
    rintro _ _ ⟨rfl, rfl⟩
    refine tl_v rfl (o_extract rfl rfl) ?_
    refine tl_v rfl (o_extract rfl rfl) ?_
    refine tl_v rfl (o_assign (by conv => lhs; whnf)) ?_
    refine tl_v rfl (o_assign (by conv => lhs; whnf)) ?_
    refine tl_nil ?_
    refine q_then_n ?_
    refine tc_ret ?_
    exact ⟨.tuple #[.int .u64 ((nm (((imgS s).drop p).take 8) : Nat) : Int), .int .i64 0], R * Dev d s, res2 rfl (congrArg (fun z : Nat => Value.int .u64 (z : Int)) (nm_take0 _ _)) rfl, Dr.sat (by repeat (first | with_reducible exact dr_refl | apply dr_keep | apply dr_drop)), rfl, rfl⟩
set_option maxRecDepth 20000 in
set_option maxHeartbeats 1000000 in
theorem FL64_no {A R : SP} {C : SP → SP} {d : Nat} {s : DevS} (hc : Ct A (Dev d s) R C := by repeat (first | with_reducible exact ct_here | apply ct_left)) {p : Int} (hp : -9223372036854775808 ≤ p ∧ p ≤ 9223372036854775807 := by omega) (hno : rdy s.ls.length s.off p 8 ≠ 0) :
    Fn Try.prog 62 #[.agg [Value.int .i64 p].toArray, .pointer (some ⟨d, 0, none⟩)] (A) (fun r B => r = .tuple #[.int .u64 0, .int .i64 (rdy s.ls.length s.off p 8)] ∧ A = B) := by
  refine fn_enterW (args := [.agg [Value.int .i64 p].toArray, .pointer (some ⟨d, 0, none⟩)]) Try.func62 rfl Try.ntmps62 (by simp) ?_
  obtain ⟨rfl, hC⟩ := hc
  refine tc_seq ?_
  refine tc_reg ?_
  refine tl_x rfl (o_box rfl rfl) ?_
  rintro _ _ ⟨b2, rfl, rfl⟩
  refine tl_v rfl (o_assign (by conv => lhs; whnf)) ?_
  refine tl_v rfl (o_assign (by conv => lhs; whnf)) ?_
  refine tl_nil ?_
  refine q_then_n ?_
  refine tc_seq ?_
  refine tc_reg ?_
  refine tl_v rfl (o_assign (by conv => lhs; whnf)) ?_
  refine tl_nil ?_
  refine q_then_n ?_
  refine tc_seq ?_
  refine tc_regh mo dr_refl ?_
  show TH _ _ _ _ _ 12 #[false, false, false, false, false, false, false, false, false, false, false, false] _ _
  refine th_take (i := 0) (listed' := #[true, false, false, false, false, false, false, false, false, false, false, false]) rfl (by kernel_rfl) (by kernel_rfl) (by kernel_rfl) rfl rfl (o_move (by conv => lhs; whnf)) ?_
  refine th_take (i := 1) (listed' := #[true, true, false, false, false, false, false, false, false, false, false, false]) rfl (by kernel_rfl) (by kernel_rfl) (by kernel_rfl) rfl rfl (o_fieldAddr (o := 0) Try.underlying117 rfl rfl sz3 rfl) ?_
  refine th_take (i := 2) (listed' := #[true, true, true, false, false, false, false, false, false, false, false, false]) rfl (by kernel_rfl) (by kernel_rfl) (by kernel_rfl) rfl rfl (by first | exact o_load p3 rfl (by repeat (first | with_reducible exact has_here | with_reducible exact has_pt | apply has_left)) rfl | exact o_loadC p3 rfl (by assumption)) ?_
  refine th_take (i := 3) (listed' := #[true, true, true, true, false, false, false, false, false, false, false, false]) rfl (by kernel_rfl) (by kernel_rfl) (by kernel_rfl) rfl rfl (o_move (by conv => lhs; whnf)) ?_
  refine th_one (i := 4) (by kernel_rfl) ?_
  refine oh_c (i := 4) (listed' := #[true, true, true, true, true, false, false, false, false, false, false, false]) rfl rfl rfl (o_call bd99 rfl (Put64_c (xs := []) (v := 0))) ?_
  rintro _ _ ⟨a14, c14, rfl, hc14, rfl⟩
  refine ⟨by repeat (first | with_reducible exact dr_refl | apply dr_keep | apply dr_drop), ?_⟩
  refine th_take (i := 5) (listed' := #[true, true, true, true, true, true, false, false, false, false, false, false]) rfl (by kernel_rfl) (by kernel_rfl) (by kernel_rfl) rfl rfl (o_len Try.underlying28 rfl) ?_
  refine th_one (i := 6) (by kernel_rfl) ?_
  refine oh_c (i := 6) (listed' := #[true, true, true, true, true, true, true, false, false, false, false, false]) rfl rfl rfl (o_call bd27 rfl (LoadNo_c (s := s) (p := p) (m := 8))) ?_
  rintro _ _ ⟨rfl, rfl⟩
  refine ⟨by repeat (first | with_reducible exact dr_refl | apply dr_keep | apply dr_drop), ?_⟩
  refine th_take (i := 7) (listed' := #[true, true, true, true, true, true, true, true, false, false, false, false]) rfl (by kernel_rfl) (by kernel_rfl) (by kernel_rfl) rfl rfl (o_move (by conv => lhs; whnf)) ?_
  refine th_take (i := 8) (listed' := #[true, true, true, true, true, true, true, true, true, false, false, false]) rfl (by kernel_rfl) (by kernel_rfl) (by kernel_rfl) rfl rfl (o_extract rfl rfl) ?_
  refine th_take (i := 9) (listed' := #[true, true, true, true, true, true, true, true, true, true, false, false]) rfl (by kernel_rfl) (by kernel_rfl) (by kernel_rfl) rfl rfl (o_extract rfl rfl) ?_
  refine th_take (i := 10) (listed' := #[true, true, true, true, true, true, true, true, true, true, true, false]) rfl (by kernel_rfl) (by kernel_rfl) (by kernel_rfl) rfl rfl (o_assign (by conv => lhs; whnf)) ?_
  refine th_take (i := 11) (listed' := #[true, true, true, true, true, true, true, true, true, true, true, true]) rfl (by kernel_rfl) (by kernel_rfl) (by kernel_rfl) rfl rfl (o_assign (by conv => lhs; whnf)) ?_
  refine th_done (by kernel_rfl) ?_
  refine q_then_n ?_
  refine tc_seq ?_
  refine tc_seq ?_
  refine tc_reg ?_
  refine tl_v rfl (o_move (by conv => lhs; whnf)) ?_
  refine tl_v rfl (o_nei rfl rfl) ?_
  refine tl_nil ?_
  refine q_then_n ?_
  refine tc_cond rfl (fun h => ?_) (fun h => ?_)
  · try simp only [decide_eq_true_eq, decide_eq_false_iff_not, Bool.not_eq_true', Bool.not_eq_false', Option.isNone_some, Option.isNone_none, Bool.not_true, Bool.not_false] at h
    refine tc_seq ?_
    refine tc_reg ?_
    refine tl_v rfl (o_move (by conv => lhs; whnf)) ?_
    refine tl_v rfl (o_assign (by conv => lhs; whnf)) ?_
    refine tl_v rfl (o_assign (by conv => lhs; whnf)) ?_
    refine tl_nil ?_
    refine q_then_n ?_
    refine tc_ret ?_
    refine q_then_r ?_
    exact ⟨.tuple #[.int .u64 0, .int .i64 (rdy s.ls.length s.off p 8)], R * Dev d s, res2 rfl rfl rfl, Dr.sat (by repeat (first | with_reducible exact dr_refl | apply dr_keep | apply dr_drop)), rfl, rfl⟩
  · exfalso; exact hno (by simpa using h)
theorem FL64_c {A R : SP} {C : SP → SP} {d : Nat} {s : DevS} (hc : Ct A (Dev d s) R C := by repeat (first | with_reducible exact ct_here | apply ct_left)) {p : Int} (hp : -9223372036854775808 ≤ p ∧ p ≤ 9223372036854775807 := by omega) : Fn Try.prog 62 #[.agg [Value.int .i64 p].toArray, .pointer (some ⟨d, 0, none⟩)] A (fun r B => r = .tuple #[.int .u64 (((loadP p 8 s).1 : Nat) : Int), .int .i64 (loadP p 8 s).2] ∧ A = B) := by
  by_cases h : rdy s.ls.length s.off p 8 = 0
  · have h0 := rdy0 h
    obtain ⟨q, rfl⟩ := Int.eq_ofNat_of_zero_le h0.2.1
    have e : loadP (q : Int) 8 s = (nm (((imgS s).drop q).take 8), 0) := by unfold loadP; rw [if_neg (by simpa using h)]; rfl
    rw [e]; exact FL64_ok hc h0.1 (by omega)
  · have e : loadP p 8 s = (0, rdy s.ls.length s.off p 8) := by unfold loadP; rw [if_pos (by simpa using h)]; rfl
    rw [e]; exact FL64_no hc hp (by simpa using h)
set_option maxRecDepth 20000 in
set_option maxHeartbeats 1000000 in
theorem Word_c {A R : SP} {C : SP → SP} {d : Nat} {s : DevS} (hc : Ct A (Dev d s) R C := by repeat (first | with_reducible exact ct_here | apply ct_left)) {p : Int} (hp : -9223372036854775808 ≤ p ∧ p ≤ 9223372036854775807 := by omega) :
    Fn Try.prog 57 #[.pointer (some ⟨d, 0, none⟩), .int .i64 p] (A) (fun r B => r = .tuple #[.int .u64 (((wordP p s).1 : Nat) : Int), .int .i64 (wordP p s).2] ∧ A = B) := by
  refine fn_enterW (args := [.pointer (some ⟨d, 0, none⟩), .int .i64 p]) Try.func57 rfl Try.ntmps57 (by simp) ?_
  refine tc_seq ?_
  refine tc_reg ?_
  refine tl_v rfl (o_assign (by conv => lhs; whnf)) ?_
  refine tl_v rfl (o_assign (by conv => lhs; whnf)) ?_
  refine tl_nil ?_
  refine q_then_n ?_
  refine tc_seq ?_
  refine tc_seq ?_
  refine tc_reg ?_
  refine tl_v rfl (o_move (by conv => lhs; whnf)) ?_
  refine tl_c rfl (o_call bd119 rfl (alive_c hc)) ?_
  rintro _ _ ⟨rfl, rfl⟩
  refine tl_v rfl (o_assign (by conv => lhs; whnf)) ?_
  refine tl_nil ?_
  refine q_then_n ?_
  refine tc_seq ?_
  refine tc_reg ?_
  refine tl_v rfl (o_move (by conv => lhs; whnf)) ?_
  refine tl_v rfl (o_nei rfl rfl) ?_
  refine tl_nil ?_
  refine q_then_n ?_
  refine tc_cond rfl (fun h => ?_) (fun h => ?_)
  · try simp only [decide_eq_true_eq, decide_eq_false_iff_not, Bool.not_eq_true', Bool.not_eq_false', Option.isNone_some, Option.isNone_none, Bool.not_true, Bool.not_false] at h
    refine tc_seq ?_
    refine tc_reg ?_
    refine tl_v rfl (o_move (by conv => lhs; whnf)) ?_
    refine tl_v rfl (o_assign (by conv => lhs; whnf)) ?_
    refine tl_v rfl (o_assign (by conv => lhs; whnf)) ?_
    refine tl_nil ?_
    refine q_then_n ?_
    refine tc_ret ?_
    refine q_then_r ?_
    have ho := stE_off h
    have e : wordP p s = (0, 5) := by unfold wordP; rw [if_pos ho]
    have e2 : stE s = 5 := by unfold stE; rw [if_pos ho]
    rw [e]
    exact ⟨.tuple #[.int .u64 0, .int .i64 5], A, res2 rfl rfl (congrArg (Value.int .i64) e2), fun _ _ h => h, rfl, rfl⟩
  · have ho : s.off = false := stE_on (by simpa using h)
    refine tc_skip ?_
    refine q_then_n ?_
    refine tc_seq ?_
    refine tc_seq ?_
    refine tc_reg ?_
    refine tl_v rfl (o_move (by conv => lhs; whnf)) ?_
    refine tl_v rfl (o_rem rfl rfl (by decide)) ?_
    refine tl_v rfl (o_nei rfl rfl) ?_
    refine tl_nil ?_
    refine q_then_n ?_
    refine tc_cond rfl (fun h => ?_) (fun h => ?_)
    · try simp only [decide_eq_true_eq, decide_eq_false_iff_not, Bool.not_eq_true', Bool.not_eq_false', Option.isNone_some, Option.isNone_none, Bool.not_true, Bool.not_false] at h
      refine tc_seq ?_
      refine tc_reg ?_
      refine tl_v rfl (o_assign (by conv => lhs; whnf)) ?_
      refine tl_v rfl (o_assign (by conv => lhs; whnf)) ?_
      refine tl_nil ?_
      refine q_then_n ?_
      refine tc_ret ?_
      refine q_then_r ?_
      have e : wordP p s = (0, 6) := by unfold wordP; rw [if_neg (by rw [ho]; decide), if_pos (fun e => h (by rw [Int.tmod_eq_zero_of_dvd (Int.dvd_of_emod_eq_zero e)]))]
      rw [e]
      exact ⟨.tuple #[.int .u64 0, .int .i64 6], A, res2 rfl rfl rfl, fun _ _ h => h, rfl, rfl⟩
    · try simp only [decide_eq_true_eq, decide_eq_false_iff_not, Bool.not_eq_true', Bool.not_eq_false', Option.isNone_some, Option.isNone_none, Bool.not_true, Bool.not_false] at h
      refine tc_skip ?_
      refine q_then_n ?_
      refine tc_seq ?_
      refine tc_reg ?_
      refine tl_v rfl (o_move (by conv => lhs; whnf)) ?_
      refine tl_v rfl (o_bS (l := [Value.int .i64 p]) (pv_cons (by conv => lhs; whnf) pv_nil) Try.underlying117 z117 (pl117 Try.underlying117) rfl) ?_
      refine tl_v rfl (o_move (by conv => lhs; whnf)) ?_
      refine tl_c rfl (o_call bd62 rfl (FL64_c hc (p := p))) ?_
      rintro _ _ ⟨rfl, rfl⟩
      refine tl_v rfl (o_extract rfl rfl) ?_
      refine tl_v rfl (o_extract rfl rfl) ?_
      refine tl_v rfl (o_assign (by conv => lhs; whnf)) ?_
      refine tl_v rfl (o_assign (by conv => lhs; whnf)) ?_
      refine tl_nil ?_
      refine q_then_n ?_
      refine tc_ret ?_
      have e : wordP p s = loadP p 8 s := by unfold wordP; rw [if_neg (by rw [ho]; decide), if_neg (fun e => e (Int.emod_eq_zero_of_dvd (Int.dvd_of_tmod_eq_zero (by simpa using h))))]
      rw [e]
      exact ⟨_, A, res2 rfl rfl rfl, Dr.sat (by repeat (first | with_reducible exact dr_refl | apply dr_keep | apply dr_drop)), rfl, rfl⟩
end Go.Vl

set_option linter.unusedVariables false
set_option linter.unusedSimpArgs false
namespace Go.Vl
open Go Go.Proofs
def wk1 : DevS := (bytesP 60 [1, 1, 1, 1, 1, 1, 1, 1] (newS 2)).2
def wk2 : DevS := (pubP 8 258 wk1).2
def wk3 : DevS := (crS [] wk2).2
def wk4 : DevS := { wk3 with off := false }
attribute [local irreducible] Sl pt ro Dev imgS
def nk1 : DevS := (crS [] (newS 1)).2
end Go.Vl

set_option linter.unusedVariables false
set_option linter.unusedSimpArgs false
namespace Go.Vl
open Go Go.Proofs
/-- The mark of a place. -/
def mk (i k : Nat) : Nat := (i * 31 + k * 7 + 1) % 256
/-- The marks of a list. -/
def mks (i n : Nat) : List Nat := (List.range n).map (mk i)
def mkL (j : Nat) (l : List Nat) : List Nat := mks j l.length
/-- Lists that bear their marks; the first of them is number j. -/
def PM : Nat → List Value → List Nat → SP
  | j, v :: vs, n :: ns => PM (j + 1) vs ns * Sl 1 v n (bys (mks j n))
  | _, [], [] => emp
  | _, _, _ => pure_ False
/-- Such lists, and what they were grown to. -/
def GP : Nat → List Value → List Value → List Nat → SP
  | j, v :: vs, g :: gs, n :: ns => GP (j + 1) vs gs ns * Gr v n (bys (mks j n)) g (n + 70) (bys (mks j (n + 70)))
  | _, [], [], [] => emp
  | _, _, _, _ => pure_ False
attribute [local irreducible] Sl SlR pt ro Parts Gr
end Go.Vl

set_option linter.unusedVariables false
set_option linter.unusedSimpArgs false
namespace Go.Vl
open Go Go.Proofs
theorem planT_five (n : Int) : ∃ r0 r1 r2 r3 r4 e : Int, planT n = ([r0, r1, r2, r3, r4], e) ∧ 0 ≤ r4 ∧ r4 ≤ 16384 := by
  by_cases h : 36992 ≤ n ∧ n ≤ 4194304 ∧ n % 64 = 0
  · exact ⟨_, _, _, _, _, _, planT_t h, by omega, by omega⟩
  · exact ⟨_, _, _, _, _, _, planT_f h, by omega, by omega⟩
theorem Plan_q {A : SP} {n e r0 r1 r2 r3 r4 : Int} (hp : planT n = ([r0, r1, r2, r3, r4], e)) : Fn Try.prog 18 #[.int .i64 n] A (fun r B => r = .tuple #[.agg (ints [r0, r1, r2, r3, r4]).toArray, .int .i64 e] ∧ A = B) := by
  have := Plan_c (A := A) (n := n); rw [hp] at this; exact this
theorem PlanR_q {A : SP} {n e r0 r1 r2 r3 r4 : Int} (hp : planT n = ([r0, r1, r2, r3, r4], e)) : Fn Try.prog 19 #[.int .i64 n] A (fun r B => r = .tuple #[.agg (ints [r0, r1, r2, r3, r4]).toArray, .int .i64 e] ∧ A = B) := by
  have := PlanR_c (A := A) (n := n); rw [hp] at this; exact this
attribute [local irreducible] crk crL crc Sl pt ro mbs sbB planT lineT
end Go.Vl

set_option linter.unusedVariables false
set_option linter.unusedSimpArgs false
namespace Go.Vl
open Go Go.Proofs
attribute [local irreducible] crk crL crc Sl pt ro mbs sbB planT Dev imgS
theorem Read_off {A R : SP} {C : SP → SP} {d : Nat} {s : DevS} (hc : Ct A (Dev d s) R C := by repeat (first | with_reducible exact ct_here | apply ct_left)) (hoff : s.off = true) :
    Fn Try.prog 48 #[.pointer (some ⟨d, 0, none⟩)] (A) (fun r B => r = .tuple #[.agg (ints [0, 0, 0, 0, 0]).toArray, .int .i64 5] ∧ A = B) := by
  refine fn_enterW (args := [.pointer (some ⟨d, 0, none⟩)]) Try.func48 rfl Try.ntmps48 (by simp) ?_
  have hst : stE s = 5 := if_pos hoff
  obtain ⟨rfl, hC⟩ := hc
  refine tc_seq ?_
  refine tc_reg ?_
  refine tl_x rfl (o_alloc z23 rfl) ?_
  rintro _ _ ⟨b2, rfl, rfl⟩
  refine tl_v rfl (o_assign (by conv => lhs; whnf)) ?_
  refine tl_nil ?_
  refine q_then_n ?_
  refine tc_seq ?_
  refine tc_seq ?_
  refine tc_reg ?_
  refine tl_v rfl (o_move (by conv => lhs; whnf)) ?_
  refine tl_c rfl (o_call bd102 rfl (state_c (s := s))) ?_
  rintro _ _ ⟨rfl, rfl⟩
  refine tl_env (d := 9) (v := .int .i64 5) (congrArg (Value.int .i64) hst) ?_
  refine tl_v rfl (o_assign (by conv => lhs; whnf)) ?_
  refine tl_nil ?_
  refine q_then_n ?_
  refine tc_seq ?_
  refine tc_reg ?_
  refine tl_v rfl (o_move (by conv => lhs; whnf)) ?_
  refine tl_v rfl (o_nei rfl rfl) ?_
  refine tl_nil ?_
  refine q_then_n ?_
  refine tc_cond rfl (fun h => ?_) (fun h => ?_)
  · try simp only [decide_eq_true_eq, decide_eq_false_iff_not, Bool.not_eq_true', Bool.not_eq_false', Option.isNone_some, Option.isNone_none, Bool.not_true, Bool.not_false] at h
    refine tc_seq ?_
    refine tc_reg ?_
    refine tl_v rfl (o_bS (l := ints [0, 0, 0, 0, 0]) pv_nil Try.underlying23 z23 (pl23 Try.underlying23) rfl) ?_
    refine tl_v rfl (o_move (by conv => lhs; whnf)) ?_
    refine tl_u rfl (o_stUN (l' := ints [0, 0, 0, 0, 0]) rfl (by repeat (first | with_reducible exact upd_here | with_reducible exact upd_pt | apply upd_left)) sz23 rfl rfl rfl (by simp) rfl) ?_
    refine tl_v rfl (o_assign (by conv => lhs; whnf)) ?_
    refine tl_nil ?_
    refine q_then_n ?_
    refine tc_ret ?_
    refine q_then_r ?_
    exact ⟨.tuple #[.agg (ints [0, 0, 0, 0, 0]).toArray, .int .i64 5], R * Dev d s, resA2 rfl (rv_cell a23 sz23 rfl (by repeat (first | with_reducible exact has_here | with_reducible exact has_pt | apply has_left)) (by show 5 ≤ 5; decide) rfl) (rv_tmp rfl), Dr.sat (by repeat (first | with_reducible exact dr_refl | apply dr_keep | apply dr_drop)), rfl, rfl⟩
  · exfalso; simp at h
theorem Read_no {A R : SP} {C : SP → SP} {d : Nat} {s : DevS} (hc : Ct A (Dev d s) R C := by repeat (first | with_reducible exact ct_here | apply ct_left)) {n : Nat} (hoff : s.off = false) (hlen : s.ls.length * 64 = n) (hn : ¬ (36992 ≤ (n : Int) ∧ (n : Int) ≤ 4194304 ∧ (n : Int) % 64 = 0)) :
    Fn Try.prog 48 #[.pointer (some ⟨d, 0, none⟩)] (A) (fun r B => r = .tuple #[.agg (ints [0, 0, 0, 0, 0]).toArray, .int .i64 100] ∧ A = B) := by
  refine fn_enterW (args := [.pointer (some ⟨d, 0, none⟩)]) Try.func48 rfl Try.ntmps48 (by simp) ?_
  have hst : stE s = 0 := by unfold stE; rw [hoff]; rfl
  refine tc_have (fun _ _ h => ct_wf2 hc h) fun hw => ?_
  have htop := hw.top
  obtain ⟨rfl, hC⟩ := hc
  refine tc_seq ?_
  refine tc_reg ?_
  refine tl_x rfl (o_alloc z23 rfl) ?_
  rintro _ _ ⟨b2, rfl, rfl⟩
  refine tl_v rfl (o_assign (by conv => lhs; whnf)) ?_
  refine tl_nil ?_
  refine q_then_n ?_
  refine tc_seq ?_
  refine tc_seq ?_
  refine tc_reg ?_
  refine tl_v rfl (o_move (by conv => lhs; whnf)) ?_
  refine tl_c rfl (o_call bd102 rfl (state_c (s := s))) ?_
  rintro _ _ ⟨rfl, rfl⟩
  refine tl_env (d := 9) (v := .int .i64 0) (congrArg (Value.int .i64) hst) ?_
  refine tl_v rfl (o_assign (by conv => lhs; whnf)) ?_
  refine tl_nil ?_
  refine q_then_n ?_
  refine tc_seq ?_
  refine tc_reg ?_
  refine tl_v rfl (o_move (by conv => lhs; whnf)) ?_
  refine tl_v rfl (o_nei rfl rfl) ?_
  refine tl_nil ?_
  refine q_then_n ?_
  refine tc_cond rfl (fun h => ?_) (fun h => ?_)
  · exfalso; simp at h
  · try simp only [decide_eq_true_eq, decide_eq_false_iff_not, Bool.not_eq_true', Bool.not_eq_false', Option.isNone_some, Option.isNone_none, Bool.not_true, Bool.not_false] at h
    refine tc_skip ?_
    refine q_then_n ?_
    refine tc_seq ?_
    refine tc_reg ?_
    refine tl_v rfl (o_move (by conv => lhs; whnf)) ?_
    refine tl_c rfl (o_call bd94 rfl (Size_c (s := s))) ?_
    rintro _ _ ⟨rfl, rfl⟩
    refine tl_env (d := 16) (v := .int .i64 (n : Int)) (congrArg (Value.int .i64) (by omega)) ?_
    refine tl_c rfl (o_call bd18 rfl (Plan_q (planT_f hn))) ?_
    rintro _ _ ⟨rfl, rfl⟩
    refine tl_v rfl (o_move (by conv => lhs; whnf)) ?_
    refine tl_v rfl (o_extract rfl rfl) ?_
    refine tl_v rfl (o_extract rfl rfl) ?_
    refine tl_x rfl (o_alloc z23 rfl) ?_
    rintro _ _ ⟨b5, rfl, rfl⟩
    refine tl_u rfl (o_stUN (l' := ints [0, 0, 0, 0, 0]) rfl (by repeat (first | with_reducible exact upd_here | with_reducible exact upd_pt | apply upd_left)) sz23 rfl rfl rfl (by simp) rfl) ?_
    refine tl_v rfl (o_assign (by conv => lhs; whnf)) ?_
    refine tl_nil ?_
    refine q_then_n ?_
    refine tc_seq ?_
    refine tc_seq ?_
    refine tc_reg ?_
    refine tl_v rfl (o_move (by conv => lhs; whnf)) ?_
    refine tl_v rfl (o_nei rfl rfl) ?_
    refine tl_nil ?_
    refine q_then_n ?_
    refine tc_cond rfl (fun h => ?_) (fun h => ?_)
    · try simp only [decide_eq_true_eq, decide_eq_false_iff_not, Bool.not_eq_true', Bool.not_eq_false', Option.isNone_some, Option.isNone_none, Bool.not_true, Bool.not_false] at h
      refine tc_seq ?_
      refine tc_reg ?_
      refine tl_v rfl (o_bS (l := ints [0, 0, 0, 0, 0]) pv_nil Try.underlying23 z23 (pl23 Try.underlying23) rfl) ?_
      refine tl_u rfl (o_stUN (l' := ints [0, 0, 0, 0, 0]) rfl (by repeat (first | with_reducible exact upd_here | with_reducible exact upd_pt | apply upd_left)) sz23 rfl rfl rfl (by simp) rfl) ?_
      refine tl_v rfl (o_assign (by conv => lhs; whnf)) ?_
      refine tl_nil ?_
      refine q_then_n ?_
      refine tc_ret ?_
      refine q_then_r ?_
      exact ⟨.tuple #[.agg (ints [0, 0, 0, 0, 0]).toArray, .int .i64 100], R * Dev d s, resA2 rfl (rv_cell a23 sz23 rfl (by repeat (first | with_reducible exact has_here | with_reducible exact has_pt | apply has_left)) (by show 5 ≤ 5; decide) rfl) (rv_tmp rfl), Dr.sat (by repeat (first | with_reducible exact dr_refl | apply dr_keep | apply dr_drop)), rfl, rfl⟩
    · exfalso; simp at h
/-- What Read and Root answer. -/
def rdA (s : DevS) : List Int × Int := if s.off = true then ([0, 0, 0, 0, 0], 5) else if 578 ≤ s.ls.length then rdT (s.ls.length * 64) (imgS s) else ([0, 0, 0, 0, 0], 100)
def rootA (s : DevS) : Nat × Int := if (rdA s).2 ≠ 0 then (0, (rdA s).2) else wordP 64 s
theorem rdT_len (n : Nat) (I : List Nat) : (rdT n I).1.length = 5 := by unfold rdT; split <;> rfl
theorem rdA_len (s : DevS) : (rdA s).1.length = 5 := by
  unfold rdA; split
  · rfl
  · split
    · exact rdT_len _ _
    · rfl
theorem Read_c {A R : SP} {C : SP → SP} {d : Nat} {s : DevS} (hc : Ct A (Dev d s) R C) : Fn Try.prog 48 #[.pointer (some ⟨d, 0, none⟩)] A (fun r B => r = .tuple #[.agg (ints (rdA s).1).toArray, .int .i64 (rdA s).2] ∧ A = B) := by
  intro g w hs
  have hw := ct_wf2 hc hs
  have htop := hw.top
  unfold rdA
  by_cases h1 : s.off = true
  · rw [if_pos h1]; exact Read_off hc h1 g w hs
  · rw [if_neg h1]
    by_cases h2 : 578 ≤ s.ls.length
    · rw [if_pos h2]; exact Read_ok hc (by simpa using h1) rfl (by omega) (by rw [imgS_len hw]) g w hs
    · rw [if_neg h2]; exact Read_no hc (by simpa using h1) rfl (by omega) g w hs
theorem five_i {l : List Int} (h : l.length = 5) : ∃ a b c d e, l = [a, b, c, d, e] := by
  match l, h with
  | [a, b, c, d, e], _ => exact ⟨a, b, c, d, e, rfl⟩
theorem Read_5 {A R : SP} {C : SP → SP} {d : Nat} {s : DevS} {l : List Int} {e : Int} (hc : Ct A (Dev d s) R C) (hr : rdA s = (l, e)) : Fn Try.prog 48 #[.pointer (some ⟨d, 0, none⟩)] A (fun r B => r = .tuple #[.agg (ints l).toArray, .int .i64 e] ∧ A = B) := by
  have := Read_c hc; rw [hr] at this; exact this
theorem Root_c {A R : SP} {C : SP → SP} {d : Nat} {s : DevS} (hc : Ct A (Dev d s) R C := by repeat (first | with_reducible exact ct_here | apply ct_left)) :
    Fn Try.prog 67 #[.pointer (some ⟨d, 0, none⟩)] (A) (fun r B => r = .tuple #[.int .u64 (((rootA s).1 : Nat) : Int), .int .i64 (rootA s).2] ∧ A = B) := by
  refine fn_enterW (args := [.pointer (some ⟨d, 0, none⟩)]) Try.func67 rfl Try.ntmps67 (by simp) ?_
  obtain ⟨q0, q1, q2, q3, q4, hq⟩ := five_i (rdA_len s)
  obtain ⟨e0, he0⟩ : ∃ e0, e0 = (rdA s).2 := ⟨_, rfl⟩
  have hrd : rdA s = ([q0, q1, q2, q3, q4], e0) := by rw [← hq, he0]
  obtain ⟨rfl, hC⟩ := hc
  refine tc_seq ?_
  refine tc_reg ?_
  refine tl_v rfl (o_assign (by conv => lhs; whnf)) ?_
  refine tl_v rfl (o_assign (by conv => lhs; whnf)) ?_
  refine tl_nil ?_
  refine q_then_n ?_
  refine tc_seq ?_
  refine tc_seq ?_
  refine tc_reg ?_
  refine tl_v rfl (o_move (by conv => lhs; whnf)) ?_
  refine tl_c rfl (o_call bd48 rfl (Read_5 (s := s) (by repeat (first | with_reducible exact ct_here | apply ct_left)) hrd)) ?_
  rintro _ _ ⟨rfl, rfl⟩
  refine tl_v rfl (o_move (by conv => lhs; whnf)) ?_
  refine tl_v rfl (o_extract rfl rfl) ?_
  refine tl_v rfl (o_extract rfl rfl) ?_
  refine tl_x rfl (o_alloc z23 rfl) ?_
  rintro _ _ ⟨b4, rfl, rfl⟩
  refine tl_u rfl (o_stUN (l' := ints [q0, q1, q2, q3, q4]) rfl (by repeat (first | with_reducible exact upd_here | with_reducible exact upd_pt | apply upd_left)) sz23 rfl rfl rfl (by simp) rfl) ?_
  refine tl_v rfl (o_assign (by conv => lhs; whnf)) ?_
  refine tl_nil ?_
  refine q_then_n ?_
  refine tc_seq ?_
  refine tc_reg ?_
  refine tl_v rfl (o_move (by conv => lhs; whnf)) ?_
  refine tl_v rfl (o_nei rfl rfl) ?_
  refine tl_nil ?_
  refine q_then_n ?_
  refine tc_cond rfl (fun h => ?_) (fun h => ?_)
  · try simp only [decide_eq_true_eq, decide_eq_false_iff_not, Bool.not_eq_true', Bool.not_eq_false', Option.isNone_some, Option.isNone_none, Bool.not_true, Bool.not_false] at h
    refine tc_seq ?_
    refine tc_reg ?_
    refine tl_v rfl (o_move (by conv => lhs; whnf)) ?_
    refine tl_v rfl (o_assign (by conv => lhs; whnf)) ?_
    refine tl_v rfl (o_assign (by conv => lhs; whnf)) ?_
    refine tl_nil ?_
    refine q_then_n ?_
    refine tc_ret ?_
    refine q_then_r ?_
    first
    | (have hp : rootA s = (0, e0) := by unfold rootA; rw [← he0, if_pos (by simpa using h)]
       rw [hp]; exact ⟨.tuple #[.int .u64 0, .int .i64 e0], R * Dev d s, res2 rfl rfl rfl, Dr.sat (by repeat (first | with_reducible exact dr_refl | apply dr_keep | apply dr_drop)), rfl, rfl⟩)
    | (have hp : rootA s = wordP 64 s := by unfold rootA; rw [← he0, if_neg (by simpa using h)]
       rw [hp]; exact ⟨.tuple #[.int .u64 (((wordP 64 s).1 : Nat) : Int), .int .i64 (wordP 64 s).2], R * Dev d s, res2 rfl rfl rfl, Dr.sat (by repeat (first | with_reducible exact dr_refl | apply dr_keep | apply dr_drop)), rfl, rfl⟩)
  · try simp only [decide_eq_true_eq, decide_eq_false_iff_not, Bool.not_eq_true', Bool.not_eq_false', Option.isNone_some, Option.isNone_none, Bool.not_true, Bool.not_false] at h
    refine tc_skip ?_
    refine q_then_n ?_
    refine tc_seq ?_
    refine tc_reg ?_
    refine tl_v rfl (o_move (by conv => lhs; whnf)) ?_
    refine tl_c rfl (o_call bd57 rfl (Word_c (s := s) (p := 64))) ?_
    rintro _ _ ⟨rfl, rfl⟩
    refine tl_v rfl (o_extract rfl rfl) ?_
    refine tl_v rfl (o_extract rfl rfl) ?_
    refine tl_v rfl (o_assign (by conv => lhs; whnf)) ?_
    refine tl_v rfl (o_assign (by conv => lhs; whnf)) ?_
    refine tl_nil ?_
    refine q_then_n ?_
    refine tc_ret ?_
    first
    | (have hp : rootA s = (0, e0) := by unfold rootA; rw [← he0, if_pos (by simpa using h)]
       rw [hp]; exact ⟨.tuple #[.int .u64 0, .int .i64 e0], R * Dev d s, res2 rfl rfl rfl, Dr.sat (by repeat (first | with_reducible exact dr_refl | apply dr_keep | apply dr_drop)), rfl, rfl⟩)
    | (have hp : rootA s = wordP 64 s := by unfold rootA; rw [← he0, if_neg (by simpa using h)]
       rw [hp]; exact ⟨.tuple #[.int .u64 (((wordP 64 s).1 : Nat) : Int), .int .i64 (wordP 64 s).2], R * Dev d s, res2 rfl rfl rfl, Dr.sat (by repeat (first | with_reducible exact dr_refl | apply dr_keep | apply dr_drop)), rfl, rfl⟩)
end Go.Vl

set_option linter.unusedVariables false
set_option linter.unusedSimpArgs false
namespace Go.Vl
open Go Go.Proofs
theorem lb_word {s : List Nat} {r : Nat} (h : r < s.length) (t : List Nat) : (((lb s ++ t).drop (8 * r)).take 8) = le 8 s[r] := by
  induction s generalizing r with
  | nil => simp at h
  | cons x s ih =>
    cases r with
    | zero =>
      show (((le 8 x ++ lb s) ++ t).drop 0).take 8 = le 8 x
      rw [List.drop_zero, List.append_assoc, List.take_append_of_le_length (by rw [le_length]; omega), List.take_of_length_le (by rw [le_length]; omega)]
    | succ r =>
      have e : 8 * (r + 1) = (le 8 x).length + 8 * r := by rw [le_length]; omega
      show (((le 8 x ++ lb s) ++ t).drop _).take 8 = _
      rw [e, List.append_assoc, ← List.drop_drop, List.drop_left]
      exact ih (by simpa using h)
theorem seenL_app (l : LineS) (σ : List Nat) : seenL { l with st := l.st ++ [σ] } = σ := by
  unfold seenL; simp [List.getD]
end Go.Vl

set_option linter.unusedVariables false
set_option linter.unusedSimpArgs false
namespace Go.Vl
open Go Go.Proofs
theorem spl_in {α : Type} {l b : List α} {q r k : Nat} (h1 : r + b.length ≤ k) (h2 : q + k ≤ l.length) : spl l q (spl ((l.drop q).take k) r b) = spl l (q + r) b := by
  have h3 : ((l.drop q).take k).length = k := by rw [List.length_take, List.length_drop]; omega
  apply List.ext_getElem?
  intro i
  rw [spl_at (by rw [spl_length (by omega)]; omega), spl_at (by omega), spl_length (by omega), h3]
  by_cases h : q ≤ i ∧ i < q + k
  · rw [if_pos h, spl_at (by omega)]
    by_cases h' : r ≤ i - q ∧ i - q < r + b.length
    · rw [if_pos h', if_pos (by omega)]; congr 1; omega
    · rw [if_neg h', if_neg (by omega), List.getElem?_take, if_pos (by omega), List.getElem?_drop]; congr 1; omega
  · rw [if_neg h, spl_at (by omega), if_neg (by omega)]
theorem spl_app {α : Type} (a l b : List α) {n p q : Nat} (ha : a.length = n) (hq : q = n + p) : spl (a ++ l) q b = a ++ spl l p b := by
  subst ha hq
  unfold spl
  rw [List.take_length_add_append, Nat.add_assoc, List.drop_length_add_append]
  simp only [List.append_assoc]
theorem spl_head {α : Type} (a l b : List α) (h : a.length = b.length) : spl (a ++ l) 0 b = b ++ l := by
  unfold spl
  rw [List.take_zero, List.nil_append, Nat.zero_add, ← h, List.drop_left]
theorem lb_set : ∀ {s : List Nat} {k v : Nat}, k < s.length → lb (s.set k v) = spl (lb s) (8 * k) (le 8 v)
  | x :: s, 0, v, _ => (spl_head (le 8 x) (lb s) (le 8 v) (by rw [le_length, le_length])).symm
  | x :: s, k + 1, v, h => by
    have ih := lb_set (s := s) (k := k) (v := v) (by simpa using h)
    show le 8 x ++ lb (s.set k v) = _
    rw [ih]
    exact (spl_app (le 8 x) (lb s) (le 8 v) (le_length 8 x) (by omega)).symm
theorem img_set : ∀ {ls : List LineS} {i : Nat} {l : LineS} (_ : ∀ l ∈ ls, WfL l) (_ : i < ls.length) (_ : (lb (seenL l)).length = 64), img (ls.set i l) = spl (img ls) (i * 64) (lb (seenL l))
  | l0 :: ls, 0, l, h, _, h8 => by
    have h0 := seen8 (h l0 (by simp))
    exact (by rw [Nat.zero_mul]; exact (spl_head (lb (seenL l0)) (img ls) (lb (seenL l)) (by rw [h0, h8])).symm)
  | l0 :: ls, i + 1, l, h, hi, h8 => by
    have h0 := seen8 (h l0 (by simp))
    have ih := img_set (i := i) (l := l) (fun x hx => h x (List.mem_cons_of_mem _ hx)) (by simpa using hi) h8
    show lb (seenL l0) ++ img (ls.set i l) = _
    rw [ih]
    exact (spl_app (lb (seenL l0)) (img ls) (lb (seenL l)) h0 (by omega)).symm
theorem img_lay {s : DevS} {q v : Nat} (hw : WfD s) (hq : q % 8 = 0) (hi : q / 64 < s.ls.length) (hv : v < 18446744073709551616) (hr : Room 1 s) : imgS (layS q v s) = spl (imgS s) q (le 8 v) := by
  have hwl := hw.line _ (List.getElem_mem hi)
  have h8 := hwl.eight _ (seenL_mem hwl)
  have hl := img_length hw.line
  have hs8 := seen8 hwl
  have e1 : (layS q v s).ls = s.ls.set (q / 64) (layL (q % 64 / 8) v s.ls[q / 64]) := by unfold layS; rw [onLine_at hi]
  have e2 : seenL (layL (q % 64 / 8) v s.ls[q / 64]) = (seenL s.ls[q / 64]).set (q % 64 / 8) v := by unfold layL; rw [seenL_app]
  have e3 : lb ((seenL s.ls[q / 64]).set (q % 64 / 8) v) = spl (lb (seenL s.ls[q / 64])) (q % 64) (le 8 v) := by
    rw [lb_set (by omega)]; congr 1; omega
  have e4 : ((imgS s).drop (q / 64 * 64)).take 64 = lb (seenL s.ls[q / 64]) := by unfold imgS; rw [img_at hw.line hi, List.take_append_of_le_length (by omega), List.take_of_length_le (by omega)]
  unfold imgS at e4 ⊢
  rw [e1, img_set hw.line hi (by rw [e2, e3, spl_length (by rw [le_length]; omega), hs8]), e2, e3, ← e4, spl_in (by rw [le_length]; omega) (by omega)]
  congr 1; omega
theorem word_at {s : DevS} {p : Nat} (hw : WfD s) (hi : p / 64 < s.ls.length) : le 8 ((seenL (s.ls.getD (p / 64) zline)).getD (p % 64 / 8) 0) = ((imgS s).drop (p - p % 8)).take 8 := by
  have hwl := hw.line _ (List.getElem_mem hi)
  have h8 := hwl.eight _ (seenL_mem hwl)
  have hs8 := seen8 hwl
  have hc := img_chunk (q := p - p % 8) (c := 8) hw.line (by rw [show (p - p % 8) / 64 = p / 64 by omega]; exact hi) (by omega)
  unfold imgS
  rw [← hc, seenL_getD hi]
  have e : (p - p % 8) / 64 = p / 64 := by omega
  simp only [e]
  have h2 := lb_word (s := seenL s.ls[p / 64]) (r := p % 64 / 8) (by omega) []
  rw [List.append_nil] at h2
  have e2 : (p - p % 8) % 64 = 8 * (p % 64 / 8) := by omega
  rw [e2, h2]
  congr 1
  simp [List.getD, show p % 64 / 8 < (seenL s.ls[p / 64]).length by omega]
theorem img_stW {s : DevS} {p : Nat} {b : List Nat} (hw : WfD s) (hi : p / 64 < s.ls.length) (hb : ∀ x ∈ b, x < 256) (hr : Room 1 s) : imgS (layS (p - p % 8) (nm (stW p b s)) s) = spl (imgS s) p (b.take (8 - p % 8)) := by
  have hl := img_length hw.line
  have e8 : le 8 (nm (stW p b s)) = stW p b s := by have := le_nm _ (stW_bytes (p := p) (s := s) hb); rw [stW_len] at this; exact this
  rw [img_lay hw (by omega) (by rw [show (p - p % 8) / 64 = p / 64 by omega]; exact hi) (stW_nm hb) hr, e8]
  unfold stW
  rw [word_at hw hi, spl_in (by rw [List.length_take]; omega) (by unfold imgS; omega)]
  congr 1; omega
/-- How many words bytes touch. -/
def cw (p m : Nat) : Nat := if m = 0 then 0 else (p + m - 1) / 8 - p / 8 + 1
theorem spl_nil {α : Type} (l : List α) (p : Nat) : spl l p [] = l := by simp [spl]
/-- The image that the statement begins with. -/
def im (n : Nat) : List Nat := (List.range n).map fun i => (i + 1) % 256
theorem lineF_lb {xs : List Nat} (hb : ∀ x ∈ xs, x < 256) {i : Nat} (hi : i * 64 + 64 ≤ xs.length) : lb (seenL (lineF xs i)) = (xs.drop (i * 64)).take 64 := by
  have e : seenL (lineF xs i) = (List.replicate 8 0).mapIdx fun k _ => wordF xs i k := by simp [seenL, lineF]
  rw [e]
  have key : ∀ k, k ≤ 8 → lb (((List.replicate 8 0).mapIdx fun k _ => wordF xs i k).take k) = (xs.drop (i * 64)).take (k * 8) := by
    intro k
    induction k with
    | zero => intro _; simp [lb]
    | succ k ih =>
      intro hk
      rw [lb_take (by simp; omega), ih (by omega)]
      simp only [List.getElem_mapIdx, wordF]
      have h1 := le_nm ((xs.drop (i * 64 + k * 8)).take 8) (fun x hx => hb x (List.mem_of_mem_drop (List.mem_of_mem_take hx)))
      rw [List.length_take, List.length_drop, Nat.min_eq_left (by omega)] at h1
      rw [h1, show (k + 1) * 8 = k * 8 + 8 by omega, List.take_add, List.drop_drop]
  have := key 8 (by omega)
  rwa [List.take_of_length_le (by simp)] at this
theorem img_from {n : Nat} {xs : List Nat} (hb : ∀ x ∈ xs, x < 256) (hl : xs.length = n * 64) : imgS (fromS n xs) = xs := by
  have e : imgS (fromS n xs) = ((List.range n).map fun i => (xs.drop (i * 64)).take 64).flatten := by
    unfold imgS img fromS
    rw [List.flatMap_def]
    congr 1
    apply List.ext_getElem
    · simp [newS]
    · intro j h1 h2
      simp only [List.length_map, List.length_mapIdx, List.length_range] at h1 h2
      simp only [List.getElem_map, List.getElem_mapIdx, List.getElem_range]
      exact lineF_lb hb (by omega)
  rw [e]
  have key : ∀ k, k ≤ n → ((List.range k).map fun i => (xs.drop (i * 64)).take 64).flatten = xs.take (k * 64) := by
    intro k
    induction k with
    | zero => intro _; simp
    | succ k ih =>
      intro hk
      rw [List.range_succ, List.map_append, List.flatten_append, ih (by omega)]
      simp only [List.map_cons, List.map_nil, List.flatten_cons, List.flatten_nil, List.append_nil]
      rw [show (k + 1) * 64 = k * 64 + 64 by omega, List.take_add]
  rw [key n (Nat.le_refl _), ← hl, List.take_length]
end Go.Vl

set_option linter.unusedVariables false
set_option linter.unusedSimpArgs false
namespace Go.Vl
open Go Go.Proofs
/-! ### What all contents of the lines of a range have in common -/
/-- All contents of all lines have the bytes c from at_ on. -/
def Ag (at_ : Nat) (c : List Nat) (s : DevS) : Prop := ∀ x, x < c.length → ∀ l, s.ls[(at_ + x) / 64]? = some l → ∀ σ ∈ l.st, (lb σ)[(at_ + x) % 64]? = c[x]?
def AgI (at_ : Nat) (c : List Nat) (I : List Nat) : Prop := ∀ x, x < c.length → I[at_ + x]? = c[x]?
theorem layS_ls {q v : Nat} {s : DevS} (hi : q / 64 < s.ls.length) : (layS q v s).ls = s.ls.set (q / 64) (layL (q % 64 / 8) v s.ls[q / 64]) := by unfold layS; rw [onLine_at hi]
/-! ### Lines are flushed -/
theorem img_seen {ls ls' : List LineS} (h : ls'.map seenL = ls.map seenL) : img ls' = img ls := by
  have e : ∀ l : List LineS, img l = (l.map seenL).flatMap lb := fun l => by unfold img; rw [List.flatMap_map]
  rw [e, e, h]
theorem seen_fence {l : LineS} (h : WfL l) : seenL (fenceL l) = seenL l := by
  unfold fenceL
  split
  · have h1 := h.hi
    have h2 := List.length_pos_iff.2 h.ne
    rw [seenL_eq h2, seenL_eq (by simp; omega)]
    simp only [List.getElem_drop, List.length_drop]
    congr 1; omega
  · rfl
theorem fence_mem {l : LineS} : ∀ σ ∈ (fenceL l).st, σ ∈ l.st := fun σ h => by
  unfold fenceL at h
  split at h
  · exact List.mem_of_mem_drop h
  · exact h
/-- Lines from q on, k of them, flushed. -/
def flsh (k q : Nat) (ls : List LineS) : List LineS := ls.mapIdx fun i l => if q ≤ i ∧ i < q + k then flushL l else l
theorem flsh_len (k q : Nat) (ls : List LineS) : (flsh k q ls).length = ls.length := by simp [flsh]
theorem flsh_zero (q : Nat) (ls : List LineS) : flsh 0 q ls = ls := by
  apply List.ext_getElem?
  intro j
  simp only [flsh, List.getElem?_mapIdx]
  cases ls[j]? with
  | none => rfl
  | some l => simp only [Option.map_some]; rw [if_neg (by omega)]
theorem flsh_step {k q : Nat} {ls : List LineS} (h : q < ls.length) : flsh k (q + 1) (ls.set q (flushL ls[q])) = flsh (k + 1) q ls := by
  apply List.ext_getElem?
  intro j
  simp only [flsh, List.getElem?_mapIdx]
  by_cases e : q = j
  · subst e
    rw [List.getElem?_set_self h, List.getElem?_eq_getElem h]
    simp only [Option.map_some]; rw [if_neg (by omega), if_pos (by omega)]
  · rw [List.getElem?_set_ne e]
    cases ls[j]? with
    | none => rfl
    | some l =>
      simp only [Option.map_some]
      by_cases h2 : q + 1 ≤ j ∧ j < q + 1 + k
      · rw [if_pos h2, if_pos (by omega)]
      · rw [if_neg h2, if_neg (by omega)]
theorem flsh_seen (k q : Nat) (ls : List LineS) : (flsh k q ls).map seenL = ls.map seenL := by
  apply List.ext_getElem?
  intro j
  simp only [flsh, List.getElem?_map, List.getElem?_mapIdx]
  cases ls[j]? with
  | none => rfl
  | some l => simp only [Option.map_some]; split <;> rfl
theorem flsh_get {k q j : Nat} {ls : List LineS} {l' : LineS} (h : (flsh k q ls)[j]? = some l') : ∃ l, ls[j]? = some l ∧ l' = if q ≤ j ∧ j < q + k then flushL l else l := by
  simp only [flsh, List.getElem?_mapIdx] at h
  cases e : ls[j]? with
  | none => rw [e] at h; cases h
  | some l => rw [e] at h; exact ⟨l, rfl, (Option.some.inj h).symm⟩
theorem flsh_wf {k q : Nat} {ls : List LineS} (h : ∀ l ∈ ls, WfL l) : ∀ l ∈ flsh k q ls, WfL l := fun l hl => by
  obtain ⟨j, hj, rfl⟩ := List.mem_iff_getElem.1 hl
  obtain ⟨l0, h1, h2⟩ := flsh_get (List.getElem?_eq_getElem hj)
  rw [h2]
  split
  · exact flushL_wf (h l0 (List.mem_of_getElem? h1))
  · exact h l0 (List.mem_of_getElem? h1)
theorem fence_get {ls : List LineS} {j : Nat} {l' : LineS} (h : (ls.map fenceL)[j]? = some l') : ∃ l, ls[j]? = some l ∧ l' = fenceL l := by
  rw [List.getElem?_map] at h
  cases e : ls[j]? with
  | none => rw [e] at h; cases h
  | some l => rw [e] at h; exact ⟨l, rfl, (Option.some.inj h).symm⟩
end Go.Vl

set_option linter.unusedVariables false
set_option linter.unusedSimpArgs false
namespace Go.Vl
open Go Go.Proofs
/-- Every line has one content alone. -/
def Cln (s : DevS) : Prop := ∀ l ∈ s.ls, l.st.length = 1
def chunk (q : Nat) (I : List Nat) : List Nat := (I.drop (q * 64)).take 64
/-- Every content of every line is as X says. -/
def Poss (X : Nat → List Nat → Prop) (s : DevS) : Prop := ∀ (q : Nat) (l : LineS), s.ls[q]? = some l → ∀ σ ∈ l.st, X q (lb σ)
theorem img_chk {s : DevS} (hw : WfD s) {q : Nat} (hq : q < s.ls.length) : chunk q (imgS s) = lb (seenL s.ls[q]) := by
  have h1 := img_at hw.line hq
  unfold chunk imgS
  rw [h1, ← seen8 (hw.line _ (List.getElem_mem hq)), List.take_left]
theorem poss_img {X : Nat → List Nat → Prop} {s : DevS} (hw : WfD s) (h : Poss X s) {q : Nat} (hq : q < s.ls.length) : X q (chunk q (imgS s)) := by
  rw [img_chk hw hq]; exact h q _ (List.getElem?_eq_getElem hq) _ (seenL_mem (hw.line _ (List.getElem_mem hq)))
theorem poss_sub {X : Nat → List Nat → Prop} {s s' : DevS} (h : Poss X s) (hs : ∀ (q : Nat) (l' : LineS), s'.ls[q]? = some l' → ∃ l : LineS, s.ls[q]? = some l ∧ ∀ σ ∈ l'.st, σ ∈ l.st) : Poss X s' := fun q l' hl' σ hσ => by
  obtain ⟨l, hl, hsub⟩ := hs _ _ hl'
  exact h q l hl σ (hsub σ hσ)
/-- Where each line has one content, that is what is seen. -/
theorem poss_cln {X : Nat → List Nat → Prop} {s : DevS} (hw : WfD s) (hc : Cln s) (h : ∀ q, q < s.ls.length → X q (chunk q (imgS s))) : Poss X s := fun q l hl σ hσ => by
  obtain ⟨hq, rfl⟩ := List.getElem?_eq_some_iff.1 hl
  have := h q hq
  rw [img_chk hw hq] at this
  have h1 := hc _ (List.getElem_mem hq)
  have e : σ = seenL s.ls[q] := by
    rw [seenL_eq (by omega)]
    obtain ⟨k, hk, rfl⟩ := List.mem_iff_getElem.1 hσ
    congr 1; omega
  rw [e]; exact this
theorem goes_sub {kp : List Int} {s : DevS} (hw : WfD s) (q : Nat) (l' : LineS) (hl' : (goesS kp s).ls[q]? = some l') : ∃ l : LineS, s.ls[q]? = some l ∧ (∀ σ ∈ l'.st, σ ∈ l.st) ∧ l'.st.length = 1 := by
  simp only [goesS, goPart, List.getElem?_mapIdx] at hl'
  cases e : s.ls[q]? with
  | none => rw [e] at hl'; cases hl'
  | some l =>
    rw [e] at hl'
    simp only [Option.map_some, Option.some.injEq] at hl'
    have hq := (List.getElem?_eq_some_iff.1 e).1
    subst hl'
    rw [if_pos hq]
    refine ⟨l, rfl, fun σ hσ => ?_, rfl⟩
    have hp : 0 < l.st.length := List.length_pos_iff.2 (hw.line l (List.mem_of_getElem? e)).ne
    have hk := kOf_lt (keep := kp) (i := q) hp
    simp only [goL, List.mem_singleton] at hσ
    rw [hσ]; simp [List.getD, hk]
theorem goes_poss {kp : List Int} {s : DevS} {X : Nat → List Nat → Prop} (hw : WfD s) (h : Poss X s) : Poss X (goesS kp s) := poss_sub h fun q l' hl' => by
  obtain ⟨l, h1, h2, _⟩ := goes_sub hw q l' hl'; exact ⟨l, h1, h2⟩
theorem goes_cln {kp : List Int} {s : DevS} (hw : WfD s) : Cln (goesS kp s) := fun l hl => by
  obtain ⟨q, hq, rfl⟩ := List.mem_iff_getElem.1 hl
  obtain ⟨_, _, _, h⟩ := goes_sub hw q _ (List.getElem?_eq_getElem hq); exact h
/-- The state behind a loss. -/
def Lost (X : Nat → List Nat → Prop) (n : Nat) (s : DevS) : Prop := s.off = true ∧ WfD s ∧ Cln s ∧ Poss X s ∧ s.ls.length = n
theorem done_loss {X : Nat → List Nat → Prop} {s : DevS} (hw : WfD s) (h : Poss X s) : (doneE s = 0 ∧ (doneS s).ls = s.ls ∧ (doneS s).off = s.off) ∨ (doneE s = 5 ∧ Lost X s.ls.length (doneS s)) := by
  have hw' := doneS_wf hw
  have hl := doneS_len s
  unfold Lost doneE doneS at *
  cases e : s.arms with
  | nil => exact .inl ⟨rfl, rfl, rfl⟩
  | cons a ar =>
    simp only [e] at hw' hl ⊢
    by_cases c : wr64 (s.cnt + 1) < a.1
    · rw [if_pos c, if_pos c]; exact .inl ⟨rfl, rfl, rfl⟩
    · rw [if_neg c] at hw' hl
      rw [if_neg c, if_neg c]
      have hw2 : WfD { s with ops := wr64 (s.ops + 1), arms := ar, cnt := 0 } := by
        refine ⟨hw.pos, hw.top, hw.line, ?_, ?_, ?_⟩
        · have := hw.arms; rw [e] at this; simp at this ⊢; omega
        · intro x hx; exact hw.after x (by rw [e]; exact List.mem_cons_of_mem _ hx)
        · intro x hx; exact hw.keeps x (by rw [e]; exact List.mem_cons_of_mem _ hx)
      exact .inr ⟨rfl, rfl, hw', goes_cln hw2, goes_poss hw2 h, hl⟩
theorem chunk_spl {I b : List Nat} {p q : Nat} (hp : p + b.length ≤ I.length) (h : (q + 1) * 64 ≤ p ∨ p + b.length ≤ q * 64) : chunk q (spl I p b) = chunk q I := by
  unfold chunk
  apply List.ext_getElem?
  intro i
  rw [List.getElem?_take, List.getElem?_take]
  by_cases hi : i < 64
  · rw [if_pos hi, if_pos hi, List.getElem?_drop, List.getElem?_drop, spl_at hp, if_neg (by omega)]
  · rw [if_neg hi, if_neg hi]
theorem poss_lay {X : Nat → List Nat → Prop} {s : DevS} {q v : Nat} (h : Poss X s) (hi : q / 64 < s.ls.length) (hw : WfD (layS q v s)) (hX : X (q / 64) (chunk (q / 64) (imgS (layS q v s)))) : Poss X (layS q v s) := fun j l' hl' σ hσ => by
  have hl2 := hl'
  rw [layS_ls hi] at hl'
  by_cases e : j = q / 64
  · subst e
    have hq' : q / 64 < (layS q v s).ls.length := by rw [layS_len']; omega
    rw [img_chk hw hq'] at hX
    have e0 : (layS q v s).ls[q / 64] = l' := by rw [List.getElem?_eq_getElem hq'] at hl2; exact Option.some.inj hl2
    rw [List.getElem?_set_self hi] at hl'
    have e2 := Option.some.inj hl'
    have hσ' : σ ∈ s.ls[q / 64].st ++ [(seenL s.ls[q / 64]).set (q % 64 / 8) v] := by rw [← e2] at hσ; exact hσ
    rcases List.mem_append.1 hσ' with h1 | h1
    · exact h _ _ (List.getElem?_eq_getElem hi) σ h1
    · rw [List.mem_singleton] at h1
      rw [e0, ← e2] at hX
      unfold layL at hX
      rw [seenL_app] at hX
      rw [h1]; exact hX
  · rw [List.getElem?_set_ne (Ne.symm e)] at hl'
    exact h j _ hl' σ hσ
/-- What holds behind a store that went well, seen from before. -/
def Went (X : Nat → List Nat → Prop) (p m : Nat) (s s2 : DevS) : Prop := s2.off = false ∧ WfD s2 ∧ Poss X s2 ∧ s2.ls.length = s.ls.length ∧ ∀ q : Nat, (q + 1) * 64 ≤ p ∨ p + m ≤ q * 64 → s2.ls[q]? = s.ls[q]?
theorem storeF_loss {X : Nat → List Nat → Prop} : ∀ (m : Nat) {p r : Nat} {b : List Nat} {s : DevS}, b.length = m → WfD s → s.off = false → (∀ x ∈ b, x < 256) → Room (r + m) s → p + m ≤ s.ls.length * 64 → Poss X s →
    (∀ k q, 0 < k → k ≤ m → ((p + k) % 8 = 0 ∨ k = m) → q < s.ls.length → X q (chunk q (spl (imgS s) p (b.take k)))) →
    ∃ e s2, storeF b.length p b s = (e, s2) ∧ ((e = 0 ∧ Went X p m s s2 ∧ Room r s2 ∧ imgS s2 = spl (imgS s) p b) ∨ (e = 5 ∧ Lost X s.ls.length s2)) := by
  intro m
  induction m using Nat.strongRecOn with
  | _ m ih =>
    intro p r b s hm hw hO hb hroom hp hP hX
    by_cases h0 : b = []
    · subst h0
      have : m = 0 := by simpa using hm.symm
      subst this
      exact ⟨0, s, storeF_nil _ _ _, .inl ⟨rfl, ⟨hO, hw, hP, rfl, fun _ _ => rfl⟩, fun l hl => by have := hroom l hl; omega, (spl_nil _ _).symm⟩⟩
    · have hpos : 0 < b.length := List.length_pos_iff.2 h0
      have hi : p / 64 < s.ls.length := by omega
      have hr1 : Room 1 s := fun l hl => by have := hroom l hl; omega
      have hwL := layS_wf (at_ := p - p % 8) hw hr1 (stW_nm (p := p) (s := s) hb)
      have himg := img_stW (p := p) hw hi hb hr1
      have hil := img_length hw.line
      have hlen : (layS (p - p % 8) (nm (stW p b s)) s).ls.length = s.ls.length := layS_len _ _ _
      have ht : (b.take (8 - p % 8)).length = min b.length (8 - p % 8) := by rw [List.length_take]; omega
      have hk : (b.drop (8 - p % 8)).length = m - min m (8 - p % 8) := by rw [List.length_drop]; omega
      have hqe : (p - p % 8) / 64 = p / 64 := by omega
      have hP1 : Poss X (layS (p - p % 8) (nm (stW p b s)) s) := by
        refine poss_lay hP (by omega) hwL ?_
        rw [himg, hqe]
        by_cases hlt : m ≤ 8 - p % 8
        · have := hX m (p / 64) (by omega) (by omega) (.inr rfl) hi
          rw [← hm, List.take_length] at this
          rw [List.take_of_length_le (by omega)]; exact this
        · exact hX (8 - p % 8) (p / 64) (by omega) (by omega) (.inl (by omega)) hi
      rw [storeF_step h0]
      rcases done_loss hwL hP1 with ⟨h1, h2, h3⟩ | ⟨h1, h2⟩
      · rw [h1, if_neg (by decide)]
        have hoff : (doneS (layS (p - p % 8) (nm (stW p b s)) s)).off = false := by rw [h3]; unfold layS; rw [(onLine_fields _ _ s).2.2.2.1]; exact hO
        have hI2 : imgS (doneS (layS (p - p % 8) (nm (stW p b s)) s)) = spl (imgS s) p (b.take (8 - p % 8)) := by unfold imgS; rw [h2]; exact himg
        have hroom2 : Room (r + (m - min m (8 - p % 8))) (doneS (layS (p - p % 8) (nm (stW p b s)) s)) := fun l hl => by
          rw [h2] at hl
          have := onLine_room (r := r + m - 1) (f := layL ((p - p % 8) % 64 / 8) (nm (stW p b s))) (i := (p - p % 8) / 64) (fun l hl => by have := hroom l hl; omega) (fun l => by simp [layL]) l hl
          omega
        have hX2 : ∀ k q, 0 < k → k ≤ m - min m (8 - p % 8) → ((p + min b.length (8 - p % 8) + k) % 8 = 0 ∨ k = m - min m (8 - p % 8)) → q < (doneS (layS (p - p % 8) (nm (stW p b s)) s)).ls.length →
            X q (chunk q (spl (imgS (doneS (layS (p - p % 8) (nm (stW p b s)) s))) (p + min b.length (8 - p % 8)) ((b.drop (8 - p % 8)).take k))) := fun k q k0 k1 k2 hq => by
          rw [hI2, ← ht, spl_spl (by rw [ht, List.length_take, List.length_drop]; unfold imgS; omega)]
          have e : b.take (8 - p % 8) ++ (b.drop (8 - p % 8)).take k = b.take (8 - p % 8 + k) := by rw [← List.take_add]
          rw [e]
          refine hX _ q (by omega) (by omega) (by omega) (by rw [h2, hlen] at hq; exact hq)
        obtain ⟨e, s2, g1, g2⟩ := ih (m - min m (8 - p % 8)) (by omega) (p := p + min b.length (8 - p % 8)) (r := r) (b := b.drop (8 - p % 8)) (s := doneS (layS (p - p % 8) (nm (stW p b s)) s))
          hk (doneS_wf hwL) hoff (fun x hx => hb x (List.mem_of_mem_drop hx)) hroom2 (by rw [h2, hlen]; omega) (fun q l hl σ hσ => by rw [h2] at hl; exact hP1 q l hl σ hσ) hX2
        refine ⟨e, s2, g1, ?_⟩
        rcases g2 with ⟨a1, ⟨a2, a3, a4, a5, a6⟩, a7, a8⟩ | ⟨a1, a2⟩
        · left
          refine ⟨a1, ⟨a2, a3, a4, by rw [a5, h2, hlen], fun q hq => ?_⟩, a7, ?_⟩
          · rw [a6 q (by omega), h2, layS_ls (by omega)]
            exact List.getElem?_set_ne (by omega)
          · rw [a8, hI2, ← ht, spl_spl (by rw [ht, List.length_drop]; unfold imgS; omega), List.take_append_drop]
        · right
          rw [h2, hlen] at a2; exact ⟨a1, a2⟩
      · rw [h1, if_pos (by decide)]
        exact ⟨5, _, rfl, .inr ⟨rfl, by rw [hlen] at h2; exact h2⟩⟩
theorem flF_loss {X : Nat → List Nat → Prop} : ∀ (k q : Nat) (s : DevS), WfD s → s.off = false → Poss X s → q + k ≤ s.ls.length →
    ∃ e s2, flF k q s = (e, s2) ∧ ((e = 0 ∧ s2.off = false ∧ WfD s2 ∧ s2.ls = (flsh k q s.ls).map fenceL) ∨ (e = 5 ∧ Lost X s.ls.length s2))
  | 0, q, s, hw, hO, hP, h => by
    have hw2 : WfD (fenceS s) := ⟨by simp [fenceS]; exact hw.pos, by simp [fenceS]; exact hw.top, fun l hl => by
      simp only [fenceS, List.mem_map] at hl
      obtain ⟨l0, h0, rfl⟩ := hl
      exact fenceL_wf (hw.line l0 h0), hw.arms, hw.after, hw.keeps⟩
    have hP2 : Poss X (fenceS s) := poss_sub hP fun q l' hl' => by
      obtain ⟨l, h1, rfl⟩ := fence_get hl'; exact ⟨l, h1, fence_mem⟩
    rw [flF_zero]
    unfold fe
    rw [if_neg (by rw [hO]; decide), flsh_zero]
    rcases done_loss hw2 hP2 with ⟨h1, h2, h3⟩ | ⟨h1, h2⟩
    · exact ⟨_, _, rfl, .inl ⟨h1, by rw [h3]; exact hO, doneS_wf hw2, h2⟩⟩
    · exact ⟨_, _, rfl, .inr ⟨h1, by have e : (fenceS s).ls.length = s.ls.length := by simp [fenceS]
                                     rw [e] at h2; exact h2⟩⟩
  | k + 1, q, s, hw, hO, hP, h => by
    have hq : q < s.ls.length := by omega
    have hs : flushS (q * 64) s = { s with ls := s.ls.set q (flushL s.ls[q]) } := by
      unfold flushS; rw [show q * 64 / 64 = q by omega, onLine_at hq]
    have hwF := flushS_wf (p := q * 64) hw
    have hPF : Poss X (flushS (q * 64) s) := poss_sub hP fun j l' hl' => by
      rw [hs] at hl'
      by_cases e : q = j
      · subst e
        rw [List.getElem?_set_self hq] at hl'
        have := Option.some.inj hl'
        subst this
        exact ⟨_, List.getElem?_eq_getElem hq, fun σ h => h⟩
      · rw [List.getElem?_set_ne e] at hl'
        exact ⟨l', hl', fun σ h => h⟩
    have hlF : (flushS (q * 64) s).ls.length = s.ls.length := by rw [hs]; simp
    have hf1 : fl1 ((q * 64 : Nat) : Int) s = (doneE (flushS (q * 64) s), doneS (flushS (q * 64) s)) := by
      unfold fl1
      rw [hO, rdy_ok (by omega) (by omega) (by omega), if_neg (by simp), Int.toNat_natCast]
    show ∃ e s2, (if (fl1 ((q * 64 : Nat) : Int) s).1 ≠ 0 then fl1 ((q * 64 : Nat) : Int) s else flF k (q + 1) (fl1 ((q * 64 : Nat) : Int) s).2) = (e, s2) ∧ _
    rw [hf1]
    rcases done_loss hwF hPF with ⟨h1, h2, h3⟩ | ⟨h1, h2⟩
    · simp only []
      rw [h1, if_neg (by decide)]
      obtain ⟨e, s2, g1, g2⟩ := flF_loss (X := X) k (q + 1) (doneS (flushS (q * 64) s)) (doneS_wf hwF) (by rw [h3, hs]; exact hO) (fun j l hl σ hσ => by rw [h2] at hl; exact hPF j l hl σ hσ) (by rw [h2, hlF]; omega)
      refine ⟨e, s2, g1, ?_⟩
      rcases g2 with ⟨a1, a2, a3, a4⟩ | ⟨a1, a2⟩
      · exact .inl ⟨a1, a2, a3, by rw [a4, h2, hs]; simp only []; rw [flsh_step hq]⟩
      · exact .inr ⟨a1, by rw [h2, hlF] at a2; exact a2⟩
    · simp only []
      rw [h1, if_pos (by decide)]
      exact ⟨5, _, rfl, .inr ⟨rfl, by rw [hlF] at h2; exact h2⟩⟩
theorem lastS_loss {X : Nat → List Nat → Prop} {p m : Nat} {s : DevS} (hw : WfD s) (hO : s.off = false) (hP : Poss X s) (h1 : 1 ≤ m) (hp : p + m ≤ s.ls.length * 64) (hc : ∀ (q : Nat) (l : LineS), (q + 1) * 64 ≤ p ∨ p + m ≤ q * 64 → s.ls[q]? = some l → l.st.length = 1) :
    ∃ e s2, lastS p m s = (e, s2) ∧ ((e = 0 ∧ s2.off = false ∧ WfD s2 ∧ Cln s2 ∧ s2.ls.length = s.ls.length ∧ imgS s2 = imgS s) ∨ (e = 5 ∧ Lost X s.ls.length s2)) := by
  obtain ⟨e, s2, g1, g2⟩ := flF_loss (X := X) ((p + m - 1) / 64 - p / 64 + 1) (p / 64) s hw hO hP (by omega)
  refine ⟨e, s2, g1, ?_⟩
  rcases g2 with ⟨a1, a2, a3, a4⟩ | h
  · left
    have hwf : ∀ l ∈ flsh ((p + m - 1) / 64 - p / 64 + 1) (p / 64) s.ls, WfL l := flsh_wf hw.line
    refine ⟨a1, a2, a3, fun l' hl' => ?_, by rw [a4, List.length_map, flsh_len], ?_⟩
    · rw [a4] at hl'
      obtain ⟨q, hq, rfl⟩ := List.mem_iff_getElem.1 hl'
      obtain ⟨l1, e1, e2⟩ := fence_get (List.getElem?_eq_getElem hq)
      obtain ⟨l, e3, e4⟩ := flsh_get e1
      rw [e2]
      have hwl := hw.line l (List.mem_of_getElem? e3)
      have hpl := List.length_pos_iff.2 hwl.ne
      by_cases c : p / 64 ≤ q ∧ q < p / 64 + ((p + m - 1) / 64 - p / 64 + 1)
      · rw [if_pos c] at e4
        subst e4
        unfold fenceL flushL
        rw [if_pos (by simp only []; omega)]
        simp only [List.length_drop]; omega
      · rw [if_neg c] at e4
        subst e4
        have := hc q l1 (by omega) e3
        unfold fenceL
        split
        · rename_i h0
          have := hwl.hi
          simp only [List.length_drop]; omega
        · exact this
    · unfold imgS
      rw [a4]
      refine img_seen ?_
      rw [← flsh_seen ((p + m - 1) / 64 - p / 64 + 1) (p / 64) s.ls, List.map_map]
      exact List.map_congr_left fun l hl => seen_fence (hwf l hl)
  · exact .inr h
/-- Bytes are made to last, wherever the power goes. -/
theorem bytes_loss {X : Nat → List Nat → Prop} {p : Nat} {b : List Nat} {s : DevS} (hw : WfD s) (hO : s.off = false) (hc : Cln s) (hb : ∀ x ∈ b, x < 256) (h0 : 0 < b.length) (hp : p + b.length ≤ s.ls.length * 64) (hroom : Room b.length s)
    (hX0 : ∀ q, q < s.ls.length → X q (chunk q (imgS s))) (hX : ∀ k q, 0 < k → k ≤ b.length → ((p + k) % 8 = 0 ∨ k = b.length) → q < s.ls.length → X q (chunk q (spl (imgS s) p (b.take k)))) :
    ∃ e s2, bytesP p b s = (e, s2) ∧ ((e = 0 ∧ s2.off = false ∧ WfD s2 ∧ Cln s2 ∧ s2.ls.length = s.ls.length ∧ imgS s2 = spl (imgS s) p b) ∨ (e = 5 ∧ Lost X s.ls.length s2)) := by
  have hrd : rdy s.ls.length s.off (p : Int) b.length = 0 := by rw [hO]; exact rdy_ok (by omega) (by omega) (by omega)
  have hne : b ≠ [] := List.length_pos_iff.1 h0
  obtain ⟨e, s2, g1, g2⟩ := storeF_loss (X := X) b.length (p := p) (r := 0) rfl hw hO hb (fun l hl => by have := hroom l hl; omega) hp (poss_cln hw hc hX0) hX
  have hst : sto (p : Int) b s = (e, s2) := by unfold sto; rw [hrd, if_neg (by decide), Int.toNat_natCast]; exact g1
  unfold bytesP
  rw [if_neg (by rw [hO]; decide), if_neg hne, hst]
  rcases g2 with ⟨a1, ⟨a2, a3, a4, a5, a6⟩, a7, a8⟩ | ⟨a1, a2⟩
  · subst a1
    rw [if_neg (by simp), Int.toNat_natCast]
    obtain ⟨e, s3, k1, k2⟩ := lastS_loss (X := X) (p := p) (m := b.length) a3 a2 a4 (by omega) (by rw [a5]; exact hp) (fun q l hq hl => by rw [a6 q hq] at hl; exact hc l (List.mem_of_getElem? hl))
    refine ⟨e, s3, k1, ?_⟩
    rcases k2 with ⟨b1, b2, b3, b4, b5, b6⟩ | ⟨b1, b2⟩
    · exact .inl ⟨b1, b2, b3, b4, b5.trans a5, b6.trans a8⟩
    · exact .inr ⟨b1, by rw [a5] at b2; exact b2⟩
  · subst a1
    rw [if_pos (show (5 : Int) ≠ 0 by decide)]
    exact ⟨5, s2, rfl, .inr ⟨rfl, a2⟩⟩
end Go.Vl

set_option linter.unusedVariables false
set_option linter.unusedSimpArgs false
namespace Go.Vl
open Go Go.Proofs
theorem old_heap' {W w : World} {g : Gh} (h : sat g w (old W)) {k : Nat} (hk : k < W.heap.size) : w.heap[k]? = W.heap[k]? := by
  obtain ⟨x, rfl, hx⟩ := h.hp
  have := Array.getElem?_eq_getElem hk
  rw [this]; exact hx _ _ true (by simp [this])
theorem cell_old' {W : World} {b off : Nat} {v : Value} (h : W.cell? ⟨b, off, none⟩ = some v) : Cell (old W) b off v := fun g w hs => by
  have hb : b < W.heap.size := by
    rcases Nat.lt_or_ge b W.heap.size with h1 | h1
    · exact h1
    · exfalso
      have : W.heap[b]? = none := Array.getElem?_eq_none h1
      simp [World.cell?, this] at h
  have := old_heap' hs hb
  rw [← h]; simp only [World.cell?, this]
theorem rs_old {W : World} {a : Addr} {xs : List Value} (h : ∀ i v, xs[i]? = some v → W.cell? (a.add i) = some v) : Rs (old W) (some a) xs := by
  cases xs with
  | nil => exact rs_nil
  | cons x l =>
    obtain ⟨b, off, spot⟩ := a
    have h0 := h 0 x rfl
    have hspot : spot = none := by simpa [Addr.add] using World.cell?_spot h0
    subst hspot
    refine fun g w hs i v hv => ⟨b, off, rfl, ?_⟩
    have := h i v hv
    rw [WideShapes.add_plain] at this
    exact cell_old' this g w hs
/-- Whatever lies there as a value of type t, by the argument's own reading, r holds of. -/
def Rdb {α : Type} (P : Program) (W : World) (t : TypeId) (r : List Value → α → Prop) : Prop :=
  ∀ (H : Type) (enc : TypeId × Value → H) (spare : Nat → Bool) (held : Bool) (fuel : Nat) (cs : List Value) (d : DataW H) (pl : List MemPlace),
    DataW.trod enc P W 0 spare held fuel t cs = some (d, pl) → (∀ n ∈ d.weights P t, n ≤ reachBytes) → ∃ x, r cs x
theorem Rdb.mono {α β : Type} {P : Program} {W : World} {t : TypeId} {r : List Value → α → Prop} {q : List Value → β → Prop} (h : Rdb P W t r) (k : ∀ cs x, r cs x → ∃ y, q cs y) : Rdb P W t q :=
  fun H enc sp hd fu cs d pl h1 h2 => by obtain ⟨x, hx⟩ := h H enc sp hd fu cs d pl h1 h2; exact k cs x hx
def PInt (k : IntKind) (cs : List Value) (n : Int) : Prop := cs = [.int k n] ∧ (Lit.int k n).wf = true
theorem rdb_int {P : Program} {W : World} {t : TypeId} {k : IntKind} (ht : P.underlying t = some (.int k)) : Rdb P W t (PInt k) := fun H enc sp hd fu cs d pl h _ => by
  obtain ⟨n, e, _, hw⟩ := DataW.trod_int ht h
  exact ⟨n, e, hw⟩
def PBool (cs : List Value) (b : Bool) : Prop := cs = [.bool b]
theorem rdb_bool {P : Program} {W : World} {t : TypeId} (ht : P.underlying t = some .bool) : Rdb P W t PBool := fun H enc sp hd fu cs d pl h _ => by
  obtain ⟨b, e, _⟩ := DataW.trod_bool ht h
  exact ⟨b, e⟩
/-- A slice: its elements' cells, and what each is. -/
def PSl {α : Type} (A : SP) (k b : Nat) (r : List Value → α → Prop) (cs : List Value) (xs : List α) : Prop :=
  ∃ (a : Option Addr) (cap : Nat) (Cs : List (List Value)), cs = [.slice a xs.length cap] ∧ xs.length ≤ cap ∧ xs.length * b ≤ reachBytes ∧ Cs.length = xs.length ∧ (∀ i (h : i < xs.length) (h' : i < Cs.length), Cs[i].length = k ∧ r Cs[i] xs[i]) ∧ Rs A a Cs.flatten
theorem weightsAll_mem {H : Type} {P : Program} {e : TypeId} : ∀ {l : List (DataW H)} {d : DataW H}, d ∈ l → ∀ n ∈ d.weights P e, n ∈ DataW.weightsAll P e l
  | x :: l, d, h, n, hn => by
    simp only [DataW.weightsAll, List.mem_append]
    rcases List.mem_cons.1 h with rfl | h
    · exact .inl hn
    · exact .inr (weightsAll_mem h n hn)
theorem flat_at {k : Nat} : ∀ {Cs : List (List Value)} (_ : ∀ c ∈ Cs, c.length = k) {i j : Nat} (_ : j < k) (hi : i < Cs.length), Cs.flatten[i * k + j]? = Cs[i][j]?
  | c :: Cs, h, 0, j, hj, _ => by
    rw [Nat.zero_mul, Nat.zero_add, List.flatten_cons, List.getElem?_append_left (by rw [h c (by simp)]; exact hj)]; rfl
  | c :: Cs, h, i + 1, j, hj, hi => by
    have hc := h c (by simp)
    rw [List.flatten_cons, List.getElem?_append_right (by rw [hc, Nat.add_mul]; omega), hc, show (i + 1) * k + j - k = i * k + j by rw [Nat.add_mul]; omega]
    exact flat_at (fun x hx => h x (List.mem_cons_of_mem _ hx)) hj (by simpa using hi)
theorem flat_length {k : Nat} : ∀ {Cs : List (List Value)} (_ : ∀ c ∈ Cs, c.length = k), Cs.flatten.length = Cs.length * k
  | [], _ => by simp
  | c :: Cs, h => by
    rw [List.flatten_cons, List.length_append, h c (by simp), flat_length (fun x hx => h x (List.mem_cons_of_mem _ hx)), List.length_cons, Nat.add_mul]; omega
theorem rdb_slice {α : Type} {P : Program} {W : World} {t e : TypeId} {k b : Nat} {r : List Value → α → Prop} (ht : P.underlying t = some (.slice e)) (hk : P.cellsOf e = k) (hb : P.bytesOf e = b) (hk0 : 0 < k) (hr : Rdb P W e r) : Rdb P W t (PSl (old W) k b r) := fun H enc sp hd fu cs d pl h hw => by
  rcases Deep.open_slice ht h with ⟨rfl, _⟩ | ⟨a, len, cap, m, n, D, Pl, rfl, _, hl, _, hm, hx, hel⟩
  · exact ⟨[], none, 0, [], rfl, Nat.le_refl _, by simp, rfl, fun i h => by simp at h, rs_nil⟩
  · have hlm : len ≤ m := by rw [hm]; split <;> omega
    simp only [Prod.mk.injEq] at hx
    obtain ⟨rfl, _⟩ := hx
    have hall : ∀ n ∈ DataW.weights P t (DataW.slice ((List.range len).map D) ((List.range (m - len)).map fun j => D (len + j))), n ≤ reachBytes := hw
    have hw1 : (len + (m - len)) * P.bytesOf e ≤ reachBytes := by
      have := hall ((len + (m - len)) * P.bytesOf e) (by simp [DataW.weights, ht])
      exact this
    have hex : ∀ i, i < len → ∃ p : List Value × α, p.1.length = k ∧ r p.1 p.2 ∧ ∀ j v, p.1[j]? = some v → W.cell? (a.add (i * k + j)) = some v := fun i hi => by
      obtain ⟨cs', h1, h2⟩ := hel i (by omega)
      rw [hk] at h1
      obtain ⟨_, hlen, h3⟩ := World.cells?_some h1
      obtain ⟨x, hx⟩ := hr H enc sp hd n cs' (D i) (Pl i) h2 (fun n hn => hall n (by
        simp only [DataW.weights, ht, List.mem_cons, List.mem_append]
        refine .inr (.inl (weightsAll_mem (d := D i) ?_ n hn))
        exact List.mem_map.2 ⟨i, List.mem_range.2 hi, rfl⟩))
      refine ⟨(cs', x), hlen, hx, fun j v hv => ?_⟩
      have hj : j < k := by have h9 : j < cs'.length := lt_at hv; omega
      have := h3 j hj
      rw [Deep.add_add] at this
      rw [this, hv]
    rcases Nat.eq_zero_or_pos len with h0 | h0
    · subst h0
      exact ⟨[], some a, cap, [], rfl, Nat.zero_le _, by simp, rfl, fun i h => by simp at h, rs_nil⟩
    · obtain ⟨p0, _⟩ := hex 0 h0
      haveI : Inhabited (List Value × α) := ⟨p0⟩
      obtain ⟨f, hf⟩ := Deep.choose_lt hex
      refine ⟨(List.range len).map fun i => (f i).2, some a, cap, (List.range len).map fun i => (f i).1, by simp, by simpa using hl, ?_, by simp, fun i h h' => ?_, rs_old fun i v hv => ?_⟩
      · simp only [List.length_map, List.length_range, ← hb]
        exact Nat.le_trans (Nat.mul_le_mul_right _ (by omega)) hw1
      · simp only [List.length_map, List.length_range] at h
        simp only [List.getElem_map, List.getElem_range]
        exact ⟨(hf i h).1, (hf i h).2.1⟩
      · have hCk : ∀ c ∈ (List.range len).map fun i => (f i).1, c.length = k := fun c hc => by
          obtain ⟨i, hi, rfl⟩ := List.mem_map.1 hc
          exact (hf i (List.mem_range.1 hi)).1
        have hi := lt_at hv
        rw [flat_length hCk, List.length_map, List.length_range] at hi
        have hq : i / k < len := Nat.div_lt_of_lt_mul (by rw [Nat.mul_comm]; exact hi)
        have hm2 : i % k < k := Nat.mod_lt _ hk0
        have e : i = i / k * k + i % k := (Nat.div_add_mod' i k).symm
        rw [e, flat_at hCk hm2 (by simpa using hq)] at hv
        simp only [List.getElem_map, List.getElem_range] at hv
        rw [e]
        exact (hf (i / k) hq).2.2 _ v hv
/-- The fields of a struct, one by one. -/
theorem rdb_fields {P : Program} {W : World} {t : TypeId} {fs : Array Field} (ht : P.underlying t = some (.struct fs)) {H : Type} {enc : TypeId × Value → H} {sp : Nat → Bool} {hd : Bool} {fu : Nat} {cs : List Value} {d : DataW H} {pl : List MemPlace}
    (h : DataW.trod enc P W 0 sp hd fu t cs = some (d, pl)) (hw : ∀ n ∈ d.weights P t, n ≤ reachBytes) : cs.length = P.cellsOf t ∧
    ∀ (j : Nat) (f : Field), fs[j]? = some f → ∀ {α : Type} {r : List Value → α → Prop}, Rdb P W f.type r → ∃ x, r ((cs.drop f.offset).take (P.cellsOf f.type)) x := by
  obtain ⟨xs, n, _, hx, hl, hlen, hf⟩ := DataW.trod_struct ht h
  refine ⟨hl, fun j f hj α r hr => ?_⟩
  simp only [Prod.mk.injEq] at hx
  obtain ⟨rfl, _⟩ := hx
  have hj' : j < xs.length := by
    have h1 : j < fs.size := (Array.getElem?_eq_some_iff.1 hj).1
    have h2 : xs.length = fs.size := by simpa using hlen
    omega
  have := hf j f hj
  rw [List.getElem?_eq_getElem hj'] at this
  refine hr H enc sp hd n _ xs[j].1 xs[j].2 this (fun m hm => hw m ?_)
  simp only [DataW.weights, ht]
  exact DataW.weights_mem_each (ts := fs.toList.map (·.type)) (ds := xs.map (·.1)) (j := j) (t := f.type) (d := xs[j].1) (by simp [hj]) (by simp [hj']) m hm
theorem flat1 {α : Type} {r : List Value → α → Prop} {f : α → Value} : ∀ {Cs : List (List Value)} {xs : List α} (_ : Cs.length = xs.length) (_ : ∀ i (h : i < xs.length) (h' : i < Cs.length), Cs[i] = [f xs[i]]), Cs.flatten = xs.map f
  | [], [], _, _ => rfl
  | c :: Cs, x :: xs, hl, h => by
    have h0 := h 0 (by simp) (by simp)
    simp only [List.getElem_cons_zero] at h0
    rw [List.flatten_cons, h0, flat1 (r := r) (f := f) (Cs := Cs) (xs := xs) (by simpa using hl) (fun i hi hi' => h (i + 1) (by simpa using hi) (by simpa using hi'))]; rfl
/-- Bytes. -/
def PBys (A : SP) (cs : List Value) (xs : List Nat) : Prop := ∃ a cap, cs = [.slice a xs.length cap] ∧ xs.length ≤ cap ∧ xs.length ≤ 140737488351232 ∧ Rs A a (bys xs) ∧ ∀ x ∈ xs, x < 256
def PInts (A : SP) (cs : List Value) (xs : List Int) : Prop := ∃ a cap, cs = [.slice a xs.length cap] ∧ xs.length ≤ cap ∧ xs.length ≤ 17592186043904 ∧ Rs A a (ints xs) ∧ ∀ x ∈ xs, -9223372036854775808 ≤ x ∧ x ≤ 9223372036854775807
theorem i64_wf {x : Int} (h : (Lit.int .i64 x).wf = true) : -9223372036854775808 ≤ x ∧ x ≤ 9223372036854775807 := Go.bounds_i64 h
theorem rdb_bys {P : Program} {W : World} {t e : TypeId} (ht : P.underlying t = some (.slice e)) (he : P.underlying e = some (.int .u8)) (hk : P.cellsOf e = 1) (hb : P.bytesOf e = 1) : Rdb P W t (PBys (old W)) :=
  (rdb_slice ht hk hb (by decide) (rdb_int he)).mono fun cs zs ⟨a, cap, Cs, e1, hc, hs, hl, hx, hr⟩ => by
    have hz : ∀ z ∈ zs, 0 ≤ z ∧ z ≤ 255 := fun z hz => by
      obtain ⟨i, hi, rfl⟩ := List.mem_iff_getElem.1 hz
      exact Go.bounds_u8 (hx i hi (by omega)).2.2
    have e2 : Cs.flatten = bys (zs.map Int.toNat) := by
      rw [flat1 (r := PInt .u8) (f := fun z : Int => .int .u8 z) hl (fun i h h' => (hx i h h').2.1), bys, List.map_map]
      refine List.map_congr_left fun z hzm => ?_
      have := hz z hzm
      simp only [Function.comp, b8]; congr 1; omega
    refine ⟨zs.map Int.toNat, a, cap, by simpa using e1, by simpa using hc, ?_, by rw [← e2]; exact hr, fun x hx => ?_⟩
    · simp only [List.length_map]; unfold reachBytes at hs; omega
    · obtain ⟨z, hzm, rfl⟩ := List.mem_map.1 hx
      have := hz z hzm; omega
theorem rdb_ints {P : Program} {W : World} {t e : TypeId} (ht : P.underlying t = some (.slice e)) (he : P.underlying e = some (.int .i64)) (hk : P.cellsOf e = 1) (hb : P.bytesOf e = 8) : Rdb P W t (PInts (old W)) :=
  (rdb_slice ht hk hb (by decide) (rdb_int he)).mono fun cs zs ⟨a, cap, Cs, e1, hc, hs, hl, hx, hr⟩ => by
    refine ⟨zs, a, cap, e1, hc, by unfold reachBytes at hs; omega, ?_, fun z hz => ?_⟩
    · rw [show ints zs = Cs.flatten from (flat1 (r := PInt .i64) (f := fun z : Int => .int .i64 z) hl (fun i h h' => (hx i h h').2.1)).symm]; exact hr
    · obtain ⟨i, hi, rfl⟩ := List.mem_iff_getElem.1 hz
      exact i64_wf (hx i hi (by omega)).2.2
end Go.Vl

set_option linter.unusedVariables false
set_option linter.unusedSimpArgs false
namespace Go.Vl
open Go Go.Proofs
abbrev ub {H : Type} (d : DataW H) : Nat := Go.Proofs.Ytimckjnnjakcoaa.Rows.uptoBulk d
abbrev ubs {H : Type} (l : List (DataW H)) : Nat := Go.Proofs.Ytimckjnnjakcoaa.Rows.uptoBulkAll l
/-- Whatever lies there as a value of type t, by the argument's own reading, r holds of, and of how much. -/
def Rdu {α : Type} (P : Program) (W : World) (t : TypeId) (r : List Value → α → Prop) (sz : α → Nat) : Prop :=
  ∀ (H : Type) (enc : TypeId × Value → H) (spare : Nat → Bool) (held : Bool) (fuel : Nat) (cs : List Value) (d : DataW H) (pl : List MemPlace),
    DataW.trod enc P W 0 spare held fuel t cs = some (d, pl) → ∃ x, r cs x ∧ sz x ≤ ub d
theorem Rdu.mono {α β : Type} {P : Program} {W : World} {t : TypeId} {r : List Value → α → Prop} {s : α → Nat} {q : List Value → β → Prop} {z : β → Nat} (h : Rdu P W t r s) (k : ∀ cs x, r cs x → ∃ y, q cs y ∧ z y ≤ s x) : Rdu P W t q z :=
  fun H enc sp hd fu cs d pl h1 => by
    obtain ⟨x, hx, hs⟩ := h H enc sp hd fu cs d pl h1
    obtain ⟨y, hy, hz⟩ := k cs x hx
    exact ⟨y, hy, by omega⟩
/-- A slice: its elements' cells, and what each is. -/
def PSu {α : Type} (A : SP) (k : Nat) (r : List Value → α → Prop) (cs : List Value) (xs : List α) : Prop :=
  ∃ (a : Option Addr) (cap : Nat) (Cs : List (List Value)), cs = [.slice a xs.length cap] ∧ xs.length ≤ cap ∧ Cs.length = xs.length ∧ (∀ i (h : i < xs.length) (h' : i < Cs.length), Cs[i].length = k ∧ r Cs[i] xs[i]) ∧ Rs A a Cs.flatten
def szL {α : Type} (sz : α → Nat) (xs : List α) : Nat := (xs.map sz).sum + 1
/-- Bytes. -/
def PByU (A : SP) (cs : List Value) (xs : List Nat) : Prop := ∃ a cap, cs = [.slice a xs.length cap] ∧ xs.length ≤ cap ∧ Rs A a (bys xs) ∧ ∀ x ∈ xs, x < 256
def PInU (A : SP) (cs : List Value) (xs : List Int) : Prop := ∃ a cap, cs = [.slice a xs.length cap] ∧ xs.length ≤ cap ∧ Rs A a (ints xs) ∧ ∀ x ∈ xs, -9223372036854775808 ≤ x ∧ x ≤ 9223372036854775807
end Go.Vl

set_option linter.unusedVariables false
set_option linter.unusedSimpArgs false
namespace Go.Vl
open Go Go.Proofs
/-- An operation's cells. -/
structure Op9 where
  k : Int
  q : Int
  n : Int
  a : Option Addr
  c : Nat
  b : List Nat
  v : Nat
  ka : Option Addr
  kc : Nat
  kp : List Int
def Op9.cells (t : Op9) : List Value := [.int .i64 t.k, .int .i64 t.q, .int .i64 t.n, .slice t.a t.b.length t.c, .int .u64 (t.v : Nat), .slice t.ka t.kp.length t.kc]
structure Op9W (A : SP) (t : Op9) : Prop where
  cap : t.b.length ≤ t.c
  rs : Rs A t.a (bys t.b)
  byt : ∀ x ∈ t.b, x < 256
  v : t.v < 18446744073709551616
  kcap : t.kp.length ≤ t.kc
  krs : Rs A t.ka (ints t.kp)
  kb : ∀ x ∈ t.kp, -9223372036854775808 ≤ x ∧ x ≤ 9223372036854775807
  q : -9223372036854775808 ≤ t.q ∧ t.q ≤ 9223372036854775807
  n : -9223372036854775808 ≤ t.n ∧ t.n ≤ 9223372036854775807
def Op9.sz (t : Op9) : Nat := t.b.length + t.kp.length + 1
def ocs (l : List Op9) : List Value := l.flatMap Op9.cells
def POps (A : SP) (cs : List Value) (ops : List Op9) : Prop := ∃ a cap, cs = [.slice a ops.length cap] ∧ ops.length ≤ cap ∧ Rs A a (ocs ops) ∧ ∀ t ∈ ops, Op9W A t
/-! ### An operation on the device alone -/
def rawS (t : Op9) (s : DevS) : DevS := if t.k = 7 then (sto ((wi t.q 256 : Nat) : Int) (t.b.take (256 - wi t.q 256)) s).2 else if t.k = 8 then (fl1 ((wi t.q 256 : Nat) : Int) s).2 else if t.k = 9 then (fe s).2 else s
theorem room_le {a b : Nat} {s : DevS} (h : Room a s) (hab : b ≤ a) : Room b s := fun l hl => Nat.le_trans (Nat.add_le_add_left hab _) (h l hl)
def rawL (l : List Op9) (s : DevS) : DevS := l.foldl (fun s t => rawS t s) s
/-- The same, but what would be stored into the range is passed over. -/
def rawB (at_ m : Nat) (t : Op9) (s : DevS) : DevS := if t.k = 7 ∧ wi t.q 256 < at_ + m ∧ at_ < wi t.q 256 + t.b.length then s else rawS t s
def rawLB (at_ m : Nat) (l : List Op9) (s : DevS) : DevS := l.foldl (fun s t => rawB at_ m t s) s
theorem cut_none {a : Option Addr} {c : Nat} : cutAddr a c 0 1 = a := by
  unfold cutAddr
  split
  · rfl
  · cases a <;> simp [Addr.add]
theorem bys_take (b : List Nat) (n : Nat) : (bys b).take n = bys (b.take n) := by unfold bys; rw [List.map_take]
attribute [local irreducible] Sl pt ro Dev imgS
end Go.Vl
