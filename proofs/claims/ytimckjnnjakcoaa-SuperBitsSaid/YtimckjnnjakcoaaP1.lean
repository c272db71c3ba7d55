/- Walks of package pmem: From. Conditions: none. -/
import Derived.Test.YtimckjnnjakcoaaPV
set_option linter.unusedVariables false
set_option linter.unusedSimpArgs false
namespace Go.Vl
open Go Go.Proofs


/-- A device of which some lines are laid. -/
def fromP (n : Nat) (xs : List Nat) (i : Nat) : DevS := { newS n with ls := pm (fun j _ => lineF xs j) i (newS n).ls }
theorem fromP_zero (n : Nat) (xs : List Nat) : fromP n xs 0 = newS n := by unfold fromP; rw [pm_zero]
theorem fromP_all (n : Nat) (xs : List Nat) : fromP n xs n = fromS n xs := by
  have h : (newS n).ls.length = n := by simp [newS]
  have := pm_all (fun j _ => lineF xs j) (newS n).ls
  rw [h] at this
  unfold fromP fromS; rw [this]
theorem fromP_len (n : Nat) (xs : List Nat) (i : Nat) : (fromP n xs i).ls.length = n := by simp [fromP, pm_length, newS]
theorem fromP_at {n : Nat} (xs : List Nat) {i : Nat} (h : i < n) : (fromP n xs i).ls[i]'(by rw [fromP_len]; exact h) = zline := by
  simp only [fromP]
  rw [pm_at _ (by simpa [newS] using h)]; simp [newS]
theorem fromP_set {n : Nat} (xs : List Nat) {i : Nat} (h : i < n) : { fromP n xs i with ls := (fromP n xs i).ls.set i (lineF xs i) } = fromP n xs (i + 1) := by
  have hl : i < (newS n).ls.length := by simpa [newS] using h
  have := pm_set (fun j _ => lineF xs j) hl
  unfold fromP; simp only [this]
theorem fromP_wf {n : Nat} {xs : List Nat} {i : Nat} (h : 0 < n) (h2 : n ≤ 65536) (hb : ∀ x ∈ xs, x < 256) : WfD (fromP n xs i) :=
  ⟨by rw [fromP_len]; exact h, by rw [fromP_len]; exact h2, fun l hl => by
    obtain ⟨j, hj, rfl⟩ := List.mem_iff_getElem.1 hl
    simp only [fromP, pm, List.getElem_mapIdx]
    split
    · exact lineF_wf hb _
    · simp only [newS, List.getElem_replicate]; exact zline_wf, by simp [fromP, newS], by simp [fromP, newS], by simp [fromP, newS]⟩
def lineW (xs : List Nat) (i k : Nat) : List Nat := pm (fun k _ => wordF xs i k) k (List.replicate 8 0)
theorem lineW_len (xs : List Nat) (i k : Nat) : (lineW xs i k).length = 8 := by simp [lineW, pm_length]
theorem lineW_zero (xs : List Nat) (i : Nat) : lineW xs i 0 = List.replicate 8 0 := pm_zero _ _
theorem lineW_set (xs : List Nat) (i : Nat) {k : Nat} (h : k < 8) : (lineW xs i k).set k (wordF xs i k) = lineW xs i (k + 1) := by
  have := pm_set (fun k _ => wordF xs i k) (l := List.replicate 8 0) (k := k) (by simpa using h)
  exact this
theorem lineW_all (xs : List Nat) (i : Nat) : (⟨[lineW xs i 8], -1⟩ : LineS) = lineF xs i := by
  have := pm_all (fun k _ => wordF xs i k) (List.replicate 8 0)
  rw [List.length_replicate] at this
  unfold lineF lineW; rw [this]

theorem From_c {F : SP} {a : Option Addr} {c m : Nat} {xs : List Nat} (n : Nat) (hr : Rs F a (bys xs) := by repeat (first | assumption | with_reducible exact rs_sl | with_reducible exact rs_pt0 | exact rs_none | apply Rs.left)) (hx : xs.length = m := by first | assumption | rfl) (hm : m = n * 64 := by omega) (hb : ∀ x ∈ xs, x < 256 := by assumption) (hn : 0 < n := by omega) (hn2 : n ≤ 65536 := by omega) :
    Fn Try.prog 42 #[.slice a m c] (F) (fun r B => ∃ d, r = .tuple #[.pointer (some ⟨d, 0, none⟩), .int .i64 0] ∧ B = F * Dev d (fromS n xs)) := by
  refine fn_enterW (args := [.slice a m c]) Try.func42 rfl Try.ntmps42 (by simp) ?_
  refine tc_seq ?_
  refine tc_reg ?_
  refine tl_v rfl (o_assign (by conv => lhs; whnf)) ?_
  refine tl_v rfl (o_assign (by conv => lhs; whnf)) ?_
  refine tl_nil ?_
  refine q_then_n ?_
  refine tc_seq ?_
  refine tc_reg ?_
  refine tl_v rfl (o_move (by conv => lhs; whnf)) ?_
  refine tl_v rfl (o_len Try.underlying28 rfl) ?_
  refine tl_c rfl (o_call bd51 rfl (New_c (n := n))) ?_
  rintro _ _ ⟨d12, rfl, rfl⟩
  refine tl_v rfl (o_move (by conv => lhs; whnf)) ?_
  refine tl_v rfl (o_extract rfl rfl) ?_
  refine tl_v rfl (o_extract rfl rfl) ?_
  refine tl_v rfl (o_assign (by conv => lhs; whnf)) ?_
  refine tl_v rfl (o_assign (by conv => lhs; whnf)) ?_
  refine tl_nil ?_
  refine q_then_n ?_
  refine tc_seq ?_
  refine tc_seq ?_
  refine tc_reg ?_
  refine tl_v rfl (o_move (by conv => lhs; whnf)) ?_
  refine tl_v rfl (o_nei rfl rfl) ?_
  refine tl_nil ?_
  refine q_then_n ?_
  refine tc_cond rfl (fun h => ?_) (fun h => ?_)
  · (exfalso; first | (revert h; simp; done) | (simp at h; done) | (revert h; simp; omega) | (simp at h; omega) | omega)
  · try simp only [decide_eq_true_eq, decide_eq_false_iff_not, Bool.not_eq_true', Bool.not_eq_false', Option.isNone_some, Option.isNone_none, Bool.not_true, Bool.not_false] at h
    refine tc_skip ?_
    refine q_then_n ?_
    refine tc_seq ?_
    refine tc_seq ?_
    refine tc_reg ?_
    refine tl_v rfl (o_move (by conv => lhs; whnf)) ?_
    refine tl_v rfl (o_nilCheck rfl) ?_
    refine tl_v rfl (o_fieldAddr (o := 0) Try.underlying97 rfl rfl sz95 rfl) ?_
    rw [← fromP_zero n xs]
    refine tl_dev fun hw bl svs av kvs hsv hkv => ?_
    refine tl_v rfl (o_load p95 rfl devC_d rfl) ?_
    refine tl_v rfl (o_len Try.underlying95 rfl) ?_
    rw [fromP_len]
    refine tl_pre (dev_back hw hsv hkv) ?_
    refine tl_v rfl (o_move (by conv => lhs; whnf)) ?_
    refine tl_nil ?_
    refine q_then_n ?_
    refine tc_block ?_
    refine tc_loop (fun kk ρ BB => ∃ (i : Nat), (i ≤ n) ∧ kk = n - i ∧ ρ 23 = .int .i64 (i : Nat) ∧ ρ 0 = .slice a m c ∧ ρ 4 = .pointer (some ⟨d12, 0, none⟩) ∧ ρ 22 = .int .i64 (n : Nat) ∧ BB = F * Dev d12 (fromP n xs i)) (m := n - (0)) ?_ ?_
    · exact ⟨0, by omega, rfl, rfl, rfl, rfl, rfl, rfl⟩
    · intro k ρ B hI
      obtain ⟨i, hp0, hkk1, hE23, hE0, hE4, hE22, rfl⟩ := hI
      refine tc_env (d := 23) hE23 ?_
      refine tc_env (d := 0) hE0 ?_
      refine tc_env (d := 4) hE4 ?_
      refine tc_env (d := 22) hE22 ?_
      clear hE23 hE0 hE4 hE22
      refine tc_seq ?_
      refine tc_reg ?_
      refine tl_v rfl (o_lss rfl rfl) ?_
      refine tl_nil ?_
      refine q_then_n ?_
      refine tc_seq ?_
      refine tc_cond rfl (fun h => ?_) (fun h => ?_)
      · try simp only [decide_eq_true_eq, decide_eq_false_iff_not, Bool.not_eq_true', Bool.not_eq_false', Option.isNone_some, Option.isNone_none, Bool.not_true, Bool.not_false] at h
        refine tc_skip ?_
        refine q_then_n ?_
        refine tc_seq ?_
        refine tc_block ?_
        refine tc_seq ?_
        refine tc_reg ?_
        refine tl_v rfl (o_move (by conv => lhs; whnf)) ?_
        refine tl_v rfl (o_assign (by conv => lhs; whnf)) ?_
        refine tl_nil ?_
        refine q_then_n ?_
        refine tc_seq ?_
        refine tc_reg ?_
        refine tl_v rfl (o_move (by conv => lhs; whnf)) ?_
        refine tl_v rfl (o_nilCheck rfl) ?_
        refine tl_v rfl (o_fieldAddr (o := 0) Try.underlying97 rfl rfl sz95 rfl) ?_
        refine tl_dev fun hw bl svs av kvs hsv hkv => ?_
        have hi : i < (fromP n xs i).ls.length := by rw [fromP_len]; omega
        obtain ⟨R, hf1, hf2⟩ := devC_focus (d := d12) (bl := bl) (kvs := kvs) (av := av) (s := fromP n xs i) hsv hi
        refine tl_eq (hf1 F) ?_
        rw [fromP_at xs (show i < n by omega)]
        refine tl_have (fun _ _ h => sl_have' rfl h) fun ⟨a', c', hvv, hn', hl', hrd⟩ => ?_
        rw [hvv] at hrd ⊢
        obtain ⟨b, o, rfl, _⟩ := hrd.some (by decide)
        have hsl : svs.length = n := by rw [hsv, fromP_len]
        have hcell : (lcs svs (fromP n xs i).ls)[i * 2 + 0]? = some (.slice (some ⟨b, o, none⟩) 1 c') := by rw [Nat.add_zero, lcs_sv hsv (by omega), hvv]; rfl
        rw [show (fromP n xs i).ls.length = n from fromP_len n xs i]
        refine tl_v rfl (by first | exact o_load p95 rfl (by repeat (first | with_reducible exact has_here | with_reducible exact has_pt | apply has_left)) rfl | exact o_loadC p95 rfl (by assumption)) ?_
        refine tl_v rfl (o_move (by conv => lhs; whnf)) ?_
        refine tl_v rfl (o_indexAddrN Try.underlying95 sz150 rfl rfl (by omega)) ?_
        refine tl_v rfl (o_fieldAddr (o := 0) Try.underlying150 rfl rfl sz148 rfl) ?_
        refine tl_v rfl (o_loadC p148 rfl (cell_of_has (by repeat (first | with_reducible exact has_here | with_reducible exact has_pt | apply has_left)) (by rw [Nat.zero_add]; exact hcell))) ?_
        refine tl_v rfl (o_indexAddrN (j := 0) Try.underlying148 sz147 rfl rfl (by decide)) ?_
        refine tl_v rfl (o_assign (by conv => lhs; whnf)) ?_
        refine tl_nil ?_
        refine q_then_n ?_
        refine tc_seq ?_
        refine tc_reg ?_
        refine tl_v rfl (o_move (by conv => lhs; whnf)) ?_
        refine tl_nil ?_
        refine q_then_n ?_
        refine tc_block ?_
        refine tc_loop (fun kk ρ BB => ∃ (k : Nat), (k ≤ 8) ∧ kk = 8 - k ∧ ρ 35 = .int .i64 (k : Nat) ∧ ρ 0 = .slice a m c ∧ ρ 4 = .pointer (some ⟨d12, 0, none⟩) ∧ ρ 6 = .int .i64 (i : Nat) ∧ ρ 7 = .pointer (some ⟨b, o, none⟩) ∧ ρ 22 = .int .i64 (n : Nat) ∧ ρ 23 = .int .i64 (i : Nat) ∧ BB = F * R * pt bl (cl (lcs svs (fromP n xs i).ls) 150) * pt d12 (cl (dcs bl n (fromP n xs i) av) 97) * Sl 8 (.slice (some ⟨b, o, none⟩) 1 c') 1 (wds (lineW xs i k))) (m := 8 - (0)) ?_ ?_
        · exact ⟨0, by omega, rfl, rfl, rfl, rfl, rfl, rfl, rfl, rfl, by rw [lineW_zero]; rfl⟩
        · intro k ρ B hI
          obtain ⟨k, hp0, hkk2, hE35, hE0, hE4, hE6, hE7, hE22, hE23, rfl⟩ := hI
          refine tc_env (d := 35) hE35 ?_
          refine tc_env (d := 0) hE0 ?_
          refine tc_env (d := 4) hE4 ?_
          refine tc_env (d := 6) hE6 ?_
          refine tc_env (d := 7) hE7 ?_
          refine tc_env (d := 22) hE22 ?_
          refine tc_env (d := 23) hE23 ?_
          clear hE35 hE0 hE4 hE6 hE7 hE22 hE23
          refine tc_seq ?_
          refine tc_reg ?_
          refine tl_v rfl (o_lss rfl rfl) ?_
          refine tl_nil ?_
          refine q_then_n ?_
          refine tc_seq ?_
          refine tc_cond rfl (fun h => ?_) (fun h => ?_)
          · try simp only [decide_eq_true_eq, decide_eq_false_iff_not, Bool.not_eq_true', Bool.not_eq_false', Option.isNone_some, Option.isNone_none, Bool.not_true, Bool.not_false] at h
            refine tc_skip ?_
            refine q_then_n ?_
            refine tc_seq ?_
            refine tc_block ?_
            refine tc_seq ?_
            refine tc_reg ?_
            refine tl_v rfl (o_move (by conv => lhs; whnf)) ?_
            refine tl_v rfl (o_assign (by conv => lhs; whnf)) ?_
            refine tl_nil ?_
            refine q_then_n ?_
            refine tc_regh (S := F * R * pt bl (cl (lcs svs (fromP n xs i).ls) 150) * pt d12 (cl (dcs bl n (fromP n xs i) av) 97)) mo (by repeat (first | with_reducible exact dr_refl | apply dr_keep | apply dr_drop)) ?_
            show TH _ _ _ _ _ 15 #[false, false, false, false, false, false, false, false, false, false, false, false, false, false, false] _ _
            refine th_take (i := 0) (listed' := #[true, false, false, false, false, false, false, false, false, false, false, false, false, false, false]) rfl (by kernel_rfl) (by kernel_rfl) (by kernel_rfl) rfl rfl (o_move (by conv => lhs; whnf)) ?_
            refine th_take (i := 1) (listed' := #[true, true, false, false, false, false, false, false, false, false, false, false, false, false, false]) rfl (by kernel_rfl) (by kernel_rfl) (by kernel_rfl) rfl rfl (o_move (by conv => lhs; whnf)) ?_
            refine th_take (i := 2) (listed' := #[true, true, true, false, false, false, false, false, false, false, false, false, false, false, false]) rfl (by kernel_rfl) (by kernel_rfl) (by kernel_rfl) rfl rfl (o_move (by conv => lhs; whnf)) ?_
            refine th_take (i := 3) (listed' := #[true, true, true, true, false, false, false, false, false, false, false, false, false, false, false]) rfl (by kernel_rfl) (by kernel_rfl) (by kernel_rfl) rfl rfl (o_move (by conv => lhs; whnf)) ?_
            refine th_take (i := 4) (listed' := #[true, true, true, true, true, false, false, false, false, false, false, false, false, false, false]) rfl (by kernel_rfl) (by kernel_rfl) (by kernel_rfl) rfl rfl (by first | exact o_mulI rfl rfl (by omega) | exact o_mul rfl rfl) ?_
            refine th_take (i := 5) (listed' := #[true, true, true, true, true, true, false, false, false, false, false, false, false, false, false]) rfl (by kernel_rfl) (by kernel_rfl) (by kernel_rfl) rfl rfl (o_move (by conv => lhs; whnf)) ?_
            refine th_take (i := 6) (listed' := #[true, true, true, true, true, true, true, false, false, false, false, false, false, false, false]) rfl (by kernel_rfl) (by kernel_rfl) (by kernel_rfl) rfl rfl (by first | exact o_mulI rfl rfl (by omega) | exact o_mul rfl rfl) ?_
            refine th_take (i := 7) (listed' := #[true, true, true, true, true, true, true, true, false, false, false, false, false, false, false]) rfl (by kernel_rfl) (by kernel_rfl) (by kernel_rfl) rfl rfl (by first | exact o_addI rfl rfl (by omega) | exact o_add rfl rfl) ?_
            refine th_env (d := 46) (v := .int .i64 ((i * 64 + k * 8 : Nat) : Int)) (rfl) ?_
            refine th_take (i := 12) (listed' := #[true, true, true, true, true, true, true, true, false, false, false, false, true, false, false]) rfl (by kernel_rfl) (by kernel_rfl) (by kernel_rfl) rfl rfl (o_nilCheck rfl) ?_
            refine th_one (i := 8) (by kernel_rfl) ?_
            refine oh_c (i := 8) (listed' := #[true, true, true, true, true, true, true, true, true, false, false, false, true, false, false]) rfl rfl rfl (o_call bd98 rfl (Take64_c)) ?_
            rintro _ _ ⟨rfl, rfl⟩
            refine ⟨by repeat (first | with_reducible exact dr_refl | apply dr_keep | apply dr_drop), ?_⟩
            refine th_take (i := 9) (listed' := #[true, true, true, true, true, true, true, true, true, true, false, false, true, false, false]) rfl (by kernel_rfl) (by kernel_rfl) (by kernel_rfl) rfl rfl (o_move (by conv => lhs; whnf)) ?_
            refine th_take (i := 10) (listed' := #[true, true, true, true, true, true, true, true, true, true, true, false, true, false, false]) rfl (by kernel_rfl) (by kernel_rfl) (by kernel_rfl) rfl rfl (o_extract rfl rfl) ?_
            refine th_take (i := 11) (listed' := #[true, true, true, true, true, true, true, true, true, true, true, true, true, false, false]) rfl (by kernel_rfl) (by kernel_rfl) (by kernel_rfl) rfl rfl (o_extract rfl rfl) ?_
            refine th_take (i := 13) (listed' := #[true, true, true, true, true, true, true, true, true, true, true, true, true, true, false]) rfl (by kernel_rfl) (by kernel_rfl) (by kernel_rfl) rfl rfl (o_indexAddrAN1 (j := k) Try.underlying147 sz53 rfl rfl (by omega)) ?_
            refine th_one (i := 14) (by kernel_rfl) ?_
            refine oh_u (i := 14) (listed' := #[true, true, true, true, true, true, true, true, true, true, true, true, true, true, true]) rfl rfl rfl (o_storeSlK (i := k) (k := 8) (m := 1) (xs := wds (lineW xs i k)) (ys := wds ((lineW xs i k).set k (wordF xs i k))) sz53 rfl rfl rfl (by omega) (wds_set' _ _ _) (by repeat (first | with_reducible exact foc_here | apply foc_left))) (by repeat (first | with_reducible exact dr_refl | apply dr_keep | apply dr_drop)) ?_
            refine th_done (by kernel_rfl) ?_
            refine q_block_n (q_then_n ?_)
            refine tc_reg ?_
            refine tl_v rfl (by first | exact o_addI rfl rfl (by omega) | exact o_add rfl rfl) ?_
            refine tl_v rfl (o_move (by conv => lhs; whnf)) ?_
            refine tl_nil ?_
            refine q_then_n ?_
            exact ⟨_, by omega, k + 1, by omega, rfl, rfl, rfl, rfl, rfl, rfl, rfl, rfl, by rw [← lineW_set xs i (by omega)]⟩
          · try simp only [decide_eq_true_eq, decide_eq_false_iff_not, Bool.not_eq_true', Bool.not_eq_false', Option.isNone_some, Option.isNone_none, Bool.not_true, Bool.not_false] at h
            refine tc_exit ?_
            refine q_then_e (q_then_e (q_block_x (q_block_n (q_then_n ?_))))
            refine tc_reg ?_
            obtain rfl : k = 8 := by omega
            have hfin := hf2 F (.slice (some ⟨b, o, none⟩) 1 c') (lineF xs i)
            refine tl_eq (A' := F * DevC d12 bl (svs.set i (.slice (some ⟨b, o, none⟩) 1 c')) av kvs { fromP n xs i with ls := (fromP n xs i).ls.set i (lineF xs i) }) ?_ ?_
            · rw [← hfin, ← lineW_all]
              have e1 : lcs (svs.set i (.slice (some ⟨b, o, none⟩) 1 c')) ((fromP n xs i).ls.set i ⟨[lineW xs i 8], -1⟩) = lcs svs (fromP n xs i).ls := by
                rw [← lcs_set_sv (⟨[lineW xs i 8], -1⟩ : LineS) hsv hi (by rw [fromP_at xs (show i < n by omega)]; rfl)]
                have h1 : i * 2 < (lcs svs (fromP n xs i).ls).length := by rw [lcs_length hsv]; omega
                have h2 := List.getElem?_eq_getElem h1
                rw [Nat.add_zero] at hcell
                rw [hcell] at h2
                rw [Option.some.inj h2]
                exact set_getElem h1
              rw [e1, fromP_len]; rfl
            refine tl_pre (dev_back (by rw [fromP_set xs (show i < n by omega)]; exact fromP_wf hn hn2 hb) (by simp [hsv]) hkv) ?_
            rw [fromP_set xs (show i < n by omega)]
            refine tl_v rfl (by first | exact o_addI rfl rfl (by omega) | exact o_add rfl rfl) ?_
            refine tl_v rfl (o_move (by conv => lhs; whnf)) ?_
            refine tl_nil ?_
            refine q_then_n ?_
            exact ⟨_, by omega, i + 1, by omega, rfl, rfl, rfl, rfl, rfl, rfl⟩
      · try simp only [decide_eq_true_eq, decide_eq_false_iff_not, Bool.not_eq_true', Bool.not_eq_false', Option.isNone_some, Option.isNone_none, Bool.not_true, Bool.not_false] at h
        refine tc_exit ?_
        refine q_then_e (q_then_e (q_block_x (q_then_n ?_)))
        refine tc_seq ?_
        refine tc_reg ?_
        refine tl_v rfl (o_move (by conv => lhs; whnf)) ?_
        refine tl_v rfl (o_assign (by conv => lhs; whnf)) ?_
        refine tl_v rfl (o_assign (by conv => lhs; whnf)) ?_
        refine tl_nil ?_
        refine q_then_n ?_
        refine tc_ret ?_
        obtain rfl : i = n := by omega
        rw [fromP_all]
        exact ⟨_, _, res2 rfl rfl rfl, fun _ _ h => h, d12, rfl, rfl⟩

end Go.Vl
