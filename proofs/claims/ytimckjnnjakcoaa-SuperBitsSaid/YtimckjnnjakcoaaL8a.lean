/- vellumlaw08: small helpers. Conditions: none. -/
import Derived.Test.YtimckjnnjakcoaaPmemB
import Derived.Test.YtimckjnnjakcoaaFoc
set_option linter.unusedVariables false
set_option linter.unusedSimpArgs false
namespace Go.Vl
open Go Go.Proofs


theorem within_neg {a n : Int} (hn : 0 < n) (h : a.tmod n < 0) : a.tmod n + n = a % n := by
  have e := Int.tmod_eq_emod (a := a) (b := n)
  have h1 := Int.emod_nonneg a (show n ≠ 0 by omega)
  split at e <;> omega
theorem within_pos {a n : Int} (hn : 0 < n) (h : ¬ a.tmod n < 0) : a.tmod n = a % n := by
  have e := Int.tmod_eq_emod (a := a) (b := n)
  have h1 := Int.emod_lt_of_pos a hn
  split at e <;> omega
theorem tmod_lt' {a n : Int} (hn : 0 < n) : -n < a.tmod n ∧ a.tmod n < n := by
  have e := Int.tmod_eq_emod (a := a) (b := n)
  have h1 := Int.emod_nonneg a (show n ≠ 0 by omega)
  have h2 := Int.emod_lt_of_pos a hn
  split at e
  · omega
  · rename_i hx
    have : a % n ≠ 0 := fun h0 => hx (.inr (Int.dvd_of_emod_eq_zero h0))
    omega

theorem within_f (A : SP) (i n : Int) (hn : 0 < n ∧ n ≤ 9223372036854775807) :
    Fn Try.prog 37 #[.int .i64 i, .int .i64 n] (A) (fun r B => r = .int .i64 (i % n) ∧ A = B) := by
  refine fn_enter (args := [.int .i64 i, .int .i64 n]) Try.func37 rfl Try.ntmps37 (by simp) ?_
  have hb := tmod_lt' (a := i) hn.1
  refine tc_seq ?_
  refine tc_reg ?_
  refine tl_v rfl (o_assign rfl) ?_
  refine tl_nil ?_
  refine q_then_n ?_
  refine tc_seq ?_
  refine tc_reg ?_
  refine tl_v rfl (o_move rfl) ?_
  refine tl_v rfl (o_move rfl) ?_
  refine tl_v rfl (o_rem (a := i) (b := n) rfl rfl (by omega)) ?_
  refine tl_v rfl (o_assign rfl) ?_
  refine tl_nil ?_
  refine q_then_n ?_
  refine tc_seq ?_
  refine tc_seq ?_
  refine tc_reg ?_
  refine tl_v rfl (o_move rfl) ?_
  refine tl_v rfl (o_lss rfl rfl) ?_
  refine tl_nil ?_
  refine q_then_n ?_
  refine tc_cond rfl (fun h => ?_) (fun h => ?_)
  · try simp only [decide_eq_true_eq, decide_eq_false_iff_not, Bool.not_eq_true', Bool.not_eq_false', Option.isNone_some, Option.isNone_none, Bool.not_true, Bool.not_false] at h
    refine tc_reg ?_
    refine tl_v rfl (o_move rfl) ?_
    refine tl_v rfl (o_move rfl) ?_
    refine tl_v rfl (o_addI (a := i.tmod n) (b := n) rfl rfl (by omega)) ?_
    refine tl_v rfl (o_assign rfl) ?_
    refine tl_nil ?_
    refine q_then_n ?_
    refine tc_seq ?_
    refine tc_reg ?_
    refine tl_v rfl (o_move rfl) ?_
    refine tl_v rfl (o_assign rfl) ?_
    refine tl_nil ?_
    refine q_then_n ?_
    refine tc_ret ?_
    exact ⟨.int .i64 (i.tmod n + n), res1 rfl rfl, by rw [within_neg hn.1 h], rfl⟩
  · try simp only [decide_eq_true_eq, decide_eq_false_iff_not, Bool.not_eq_true', Bool.not_eq_false', Option.isNone_some, Option.isNone_none, Bool.not_true, Bool.not_false] at h
    refine tc_skip ?_
    refine q_then_n ?_
    refine tc_seq ?_
    refine tc_reg ?_
    refine tl_v rfl (o_move rfl) ?_
    refine tl_v rfl (o_assign rfl) ?_
    refine tl_nil ?_
    refine q_then_n ?_
    refine tc_ret ?_
    exact ⟨.int .i64 (i.tmod n), res1 rfl rfl, by rw [within_pos hn.1 h], rfl⟩

theorem good_f (A : SP) (a : Option Addr) (c : Nat) (xs : List Int) (hr : Rd A a (ints xs)) (hl : xs.length ≤ 1099511627776000) :
    Fn Try.prog 30 #[.slice a xs.length c] (A) (fun r B => r = .bool (!lowB xs) ∧ A = B) := by
  refine fn_enter (args := [.slice a xs.length c]) Try.func30 rfl Try.ntmps30 (by simp) ?_
  refine tc_seq ?_
  refine tc_reg ?_
  refine tl_v rfl (o_assign rfl) ?_
  refine tl_nil ?_
  refine q_then_n ?_
  refine tc_seq ?_
  refine tc_seq ?_
  refine tc_reg ?_
  refine tl_v rfl (o_assign rfl) ?_
  refine tl_nil ?_
  refine q_then_n ?_
  refine tc_block ?_
  refine tc_loop (fun k ρ B => B = A ∧ ∃ i : Nat, i ≤ xs.length ∧ k = xs.length - i ∧ lowB (xs.take i) = false ∧ ρ 0 = .slice a xs.length c ∧ ρ 3 = .int .i64 (i : Nat)) (m := xs.length) ?_ ?_
  · exact ⟨rfl, 0, by omega, rfl, rfl, rfl, rfl⟩
  · intro k ρ B hI
    obtain ⟨rfl, i, hi, rfl, hlow, h0, h3⟩ := hI
    refine tc_env (d := 0) h0 ?_
    refine tc_env (d := 3) h3 ?_
    refine tc_seq ?_
    refine tc_seq ?_
    refine tc_reg ?_
    refine tl_v rfl (o_move rfl) ?_
    refine tl_v rfl (o_move rfl) ?_
    refine tl_v rfl (o_len Try.underlying37 rfl) ?_
    refine tl_v rfl (o_lss rfl rfl) ?_
    refine tl_nil ?_
    refine q_then_n ?_
    refine tc_cond rfl (fun h => ?_) (fun h => ?_)
    · simp only [decide_eq_true_eq] at h
      have hi' : i < xs.length := by omega
      obtain ⟨b, o, rfl, hc⟩ := hr.some (by rw [ints_length]; omega)
      have g1 := hc i _ (ints_at hi')
      refine tc_skip ?_
      refine q_then_n ?_
      refine tc_seq ?_
      refine tc_block ?_
      refine tc_seq ?_
      refine tc_reg ?_
      refine tl_v rfl (o_move rfl) ?_
      refine tl_v rfl (o_move rfl) ?_
      refine tl_v rfl (o_indexAddrN1 (j := i) Try.underlying37 sz3 rfl rfl (by omega)) ?_
      refine tl_v rfl (o_loadC p3 rfl g1) ?_
      refine tl_v rfl (o_lss rfl rfl) ?_
      refine tl_nil ?_
      refine q_then_n ?_
      refine tc_cond rfl (fun h => ?_) (fun h => ?_)
      · try simp only [decide_eq_true_eq, decide_eq_false_iff_not, Bool.not_eq_true', Bool.not_eq_false', Option.isNone_some, Option.isNone_none, Bool.not_true, Bool.not_false] at h
        refine tc_seq ?_
        refine tc_reg ?_
        refine tl_v rfl (o_assign rfl) ?_
        refine tl_nil ?_
        refine q_then_n ?_
        refine tc_ret ?_
        refine q_block_r (q_then_r (q_then_r (q_block_r (q_then_r ?_))))
        refine ⟨.bool false, res1 rfl rfl, ?_, rfl⟩
        have : lowB xs = true := by unfold lowB; rw [List.any_eq_true]; exact ⟨_, List.getElem_mem hi', by simpa using h⟩
        rw [this]; rfl
      · try simp only [decide_eq_true_eq, decide_eq_false_iff_not, Bool.not_eq_true', Bool.not_eq_false', Option.isNone_some, Option.isNone_none, Bool.not_true, Bool.not_false] at h
        refine tc_skip ?_
        refine q_block_n (q_then_n ?_)
        refine tc_reg ?_
        refine tl_v rfl (o_move rfl) ?_
        refine tl_v rfl (by first | exact o_addI rfl rfl (by omega) | exact o_add rfl rfl) ?_
        refine tl_v rfl (o_assign rfl) ?_
        refine tl_nil ?_
        refine q_then_n ?_
        exact ⟨_, by omega, rfl, i + 1, by omega, rfl, by rw [List.take_succ_eq_append_getElem hi']; unfold lowB at hlow ⊢; rw [List.any_append, hlow]; simp; omega, rfl, rfl⟩
    · try simp only [decide_eq_true_eq, decide_eq_false_iff_not, Bool.not_eq_true', Bool.not_eq_false', Option.isNone_some, Option.isNone_none, Bool.not_true, Bool.not_false] at h
      refine tc_exit ?_
      refine q_then_e (q_then_e (q_block_x (q_then_n ?_)))
      refine tc_seq ?_
      refine tc_reg ?_
      refine tl_v rfl (o_assign rfl) ?_
      refine tl_nil ?_
      refine q_then_n ?_
      refine tc_ret ?_
      obtain rfl : i = xs.length := by omega
      rw [List.take_length] at hlow
      exact ⟨.bool true, res1 rfl rfl, by rw [hlow]; rfl, rfl⟩

theorem number_f (A : SP) (a : Option Addr) (m c : Nat) (xs : List Nat) (hm : xs.length = m) (hb : ∀ x ∈ xs, x < 256) (hr : Rd A a (bys xs)) (h8 : 8 ≤ m) :
    Fn Try.prog 34 #[.slice a m c] (A) (fun r B => r = .int .u64 ((nm (xs.take 8) : Nat) : Int) ∧ A = B) := by
  refine fn_enter (args := [.slice a m c]) Try.func34 rfl Try.ntmps34 (by simp) ?_
  obtain ⟨b1, o1, rfl, hc1⟩ := hr.some (by rw [bys_length]; omega)
  refine tc_seq ?_
  refine tc_reg ?_
  refine tl_v rfl (o_assign rfl) ?_
  refine tl_nil ?_
  refine q_then_n ?_
  refine tc_seq ?_
  refine tc_reg ?_
  refine tl_v rfl (o_assign rfl) ?_
  refine tl_nil ?_
  refine q_then_n ?_
  refine tc_seq ?_
  refine tc_seq ?_
  refine tc_reg ?_
  refine tl_v rfl (o_assign rfl) ?_
  refine tl_nil ?_
  refine q_then_n ?_
  refine tc_block ?_
  refine tc_loop (fun k ρ B => B = A ∧ ∃ i : Int, -1 ≤ i ∧ i < 8 ∧ k = (i + 1).toNat ∧ ρ 0 = .slice (some ⟨b1, o1, none⟩) m c ∧ ρ 4 = .int .i64 i ∧ ρ 3 = .int .u64 ((nm ((xs.drop (i + 1).toNat).take (8 - (i + 1).toNat)) : Nat) : Int)) (m := 8) ?_ ?_
  · exact ⟨rfl, 7, by omega, by omega, rfl, rfl, rfl, by simp [nm]; rfl⟩
  · intro k ρ B hI
    obtain ⟨rfl, i, hi, hi2, rfl, h0, h4, h3⟩ := hI
    refine tc_env (d := 0) h0 ?_
    refine tc_env (d := 4) h4 ?_
    refine tc_env (d := 3) h3 ?_
    refine tc_seq ?_
    refine tc_seq ?_
    refine tc_reg ?_
    refine tl_v rfl (o_move rfl) ?_
    refine tl_v rfl (o_geq rfl rfl) ?_
    refine tl_nil ?_
    refine q_then_n ?_
    refine tc_cond rfl (fun h => ?_) (fun h => ?_)
    · simp only [decide_eq_true_eq] at h
      obtain ⟨j, rfl⟩ := Int.eq_ofNat_of_zero_le h
      have hj : j < 8 := by omega
      have hpj : j < xs.length := by omega
      have hb1 := hb _ (List.getElem_mem hpj)
      have g1 := hc1 j _ (bys_at hpj)
      have hlt := nm_lt ((xs.drop (j + 1)).take (8 - (j + 1))) (fun y hy => hb y (List.mem_of_mem_drop (List.mem_of_mem_take hy)))
      have hle : ((xs.drop (j + 1)).take (8 - (j + 1))).length ≤ 7 := by rw [List.length_take]; omega
      have hpow := Nat.pow_le_pow_right (show 0 < 256 by decide) hle
      have hst : nm ((xs.drop (j + 1)).take (8 - (j + 1))) * 256 + xs[j] = nm ((xs.drop j).take (8 - j)) := by
        rw [List.drop_eq_getElem_cons hpj, show 8 - j = (8 - (j + 1)) + 1 by omega, List.take_succ_cons, nm]; omega
      have hu : nm ((xs.drop (j + 1)).take (8 - (j + 1))) * 256 + xs[j] < 2 ^ IntKind.u64.bits := by
        show _ < 18446744073709551616
        have : (256 : Nat) ^ 7 = 72057594037927936 := by decide
        omega
      have hu0 : nm ((xs.drop (j + 1)).take (8 - (j + 1))) * 256 < 2 ^ IntKind.u64.bits := Nat.lt_of_le_of_lt (Nat.le_add_right _ _) hu
      refine tc_skip ?_
      refine q_then_n ?_
      refine tc_seq ?_
      refine tc_block ?_
      refine tc_reg ?_
      refine tl_v rfl (o_move rfl) ?_
      refine tl_env (d := 9) (v := .int .u64 ((nm ((xs.drop (j + 1)).take (8 - (j + 1))) : Nat) : Int)) rfl ?_
      refine tl_v rfl (o_mulN (a := nm ((xs.drop (j + 1)).take (8 - (j + 1)))) (b := 256) (c := 256) rfl rfl rfl (by simp) hu0) ?_
      refine tl_v rfl (o_move rfl) ?_
      refine tl_v rfl (o_move rfl) ?_
      refine tl_v rfl (o_indexAddrN1 (j := j) Try.underlying28 sz5 rfl rfl (by omega)) ?_
      refine tl_v rfl (o_loadC p5 rfl g1) ?_
      refine tl_v rfl (o_convI Try.underlying5 Try.underlying53 rfl (wrap_fit .u64 rfl _ (by show _ < 2 ^ 64; omega))) ?_
      refine tl_v rfl (o_addN rfl rfl rfl hu) ?_
      refine tl_v rfl (o_assign rfl) ?_
      refine tl_nil ?_
      refine q_block_n (q_then_n ?_)
      refine tc_reg ?_
      refine tl_v rfl (o_move rfl) ?_
      refine tl_v rfl (by first | exact o_subI rfl rfl (by omega) | exact o_sub rfl rfl) ?_
      refine tl_v rfl (o_assign rfl) ?_
      refine tl_nil ?_
      refine q_then_n ?_
      exact ⟨(j : Int).toNat, by simp, rfl, (j : Int) - 1, by omega, by omega, by omega, rfl, rfl, congrArg (fun x : Nat => Value.int .u64 (x : Int)) (hst.trans (by congr 3 <;> omega))⟩
    · try simp only [decide_eq_true_eq, decide_eq_false_iff_not, Bool.not_eq_true', Bool.not_eq_false', Option.isNone_some, Option.isNone_none, Bool.not_true, Bool.not_false] at h
      refine tc_exit ?_
      refine q_then_e (q_then_e (q_block_x (q_then_n ?_)))
      refine tc_seq ?_
      refine tc_reg ?_
      refine tl_v rfl (o_move rfl) ?_
      refine tl_v rfl (o_assign rfl) ?_
      refine tl_nil ?_
      refine q_then_n ?_
      refine tc_ret ?_
      obtain rfl : i = -1 := by omega
      exact ⟨.int .u64 ((nm (xs.take 8) : Nat) : Int), res1 rfl rfl, rfl, rfl⟩

theorem CopyInts_f (A : SP) (a : Option Addr) (c : Nat) (xs : List Int) (hr : Rd A a (ints xs)) (hl : xs.length ≤ 17592186044416) :
    Fn Try.prog 29 #[.slice a xs.length c] (A) (fun r B => B = A * Sl 1 r xs.length (ints xs)) := by
  refine fn_enter (args := [.slice a xs.length c]) Try.func29 rfl Try.ntmps29 (by simp) ?_
  refine tc_seq ?_
  refine tc_reg ?_
  refine tl_v rfl (o_assign rfl) ?_
  refine tl_nil ?_
  refine q_then_n ?_
  refine tc_seq ?_
  refine tc_reg ?_
  refine tl_v rfl (o_assign rfl) ?_
  refine tl_nil ?_
  refine q_then_n ?_
  refine tc_seq ?_
  refine tc_seq ?_
  refine tc_reg ?_
  refine tl_pre (fun _ _ h => sl_nil (k := 1) h) ?_
  refine tl_v rfl (o_assign rfl) ?_
  refine tl_nil ?_
  refine q_then_n ?_
  refine tc_block ?_
  refine tc_loop (fun k ρ B => ∃ (i : Nat) (v : Value), i ≤ xs.length ∧ k = xs.length - i ∧ ρ 0 = .slice a xs.length c ∧ ρ 3 = v ∧ ρ 4 = .int .i64 (i : Nat) ∧ B = A * Sl 1 v i (ints (xs.take i))) (m := xs.length) ?_ ?_
  · exact ⟨0, .slice none 0 0, by omega, rfl, rfl, rfl, rfl, rfl⟩
  · intro k ρ B hI
    obtain ⟨i, v, hi, rfl, h0, h3, h4, rfl⟩ := hI
    refine tc_env (d := 0) h0 ?_
    refine tc_env (d := 3) h3 ?_
    refine tc_env (d := 4) h4 ?_
    refine tc_seq ?_
    refine tc_seq ?_
    refine tc_reg ?_
    refine tl_v rfl (o_move rfl) ?_
    refine tl_v rfl (o_move rfl) ?_
    refine tl_v rfl (o_len Try.underlying37 rfl) ?_
    refine tl_v rfl (o_lss rfl rfl) ?_
    refine tl_nil ?_
    refine q_then_n ?_
    refine tc_cond rfl (fun h => ?_) (fun h => ?_)
    · simp only [decide_eq_true_eq] at h
      have hi' : i < xs.length := by omega
      obtain ⟨b, o, rfl, hc⟩ := hr.some (by rw [ints_length]; omega)
      have g1 := hc i _ (ints_at hi')
      refine tc_skip ?_
      refine q_then_n ?_
      refine tc_seq ?_
      refine tc_block ?_
      refine tc_reg ?_
      refine tl_v rfl (o_move rfl) ?_
      refine tl_v rfl (o_move rfl) ?_
      refine tl_v rfl (o_move rfl) ?_
      refine tl_v rfl (o_indexAddrN1 (j := i) Try.underlying37 sz3 rfl rfl (by omega)) ?_
      refine tl_v rfl (o_loadC p3 rfl g1.left) ?_
      refine tl_x rfl (o_buildSlice1 (v := .int .i64 xs[i]) Try.underlying37 sz3 z3 rfl rfl) ?_
      rintro _ _ ⟨b16, rfl, rfl⟩
      refine tl_x rfl (o_append1 Try.underlying37 Try.underlying37 sz3 by3 z3 rfl (by decide) (by decide) rfl rfl rfl rfl rfl (by omega)) ?_
      rintro u17 _ rfl
      refine tl_v rfl (o_assign rfl) ?_
      refine tl_nil ?_
      refine q_block_n (q_then_n ?_)
      refine tc_reg ?_
      refine tl_v rfl (o_move rfl) ?_
      refine tl_v rfl (by first | exact o_addI rfl rfl (by omega) | exact o_add rfl rfl) ?_
      refine tl_v rfl (o_assign rfl) ?_
      refine tl_nil ?_
      refine q_then_n ?_
      exact ⟨_, by omega, i + 1, u17, by omega, rfl, rfl, rfl, rfl, by rw [List.take_succ_eq_append_getElem hi']; unfold ints; rw [List.map_append]; rfl⟩
    · try simp only [decide_eq_true_eq, decide_eq_false_iff_not, Bool.not_eq_true', Bool.not_eq_false', Option.isNone_some, Option.isNone_none, Bool.not_true, Bool.not_false] at h
      refine tc_exit ?_
      refine q_then_e (q_then_e (q_block_x (q_then_n ?_)))
      refine tc_seq ?_
      refine tc_reg ?_
      refine tl_v rfl (o_move rfl) ?_
      refine tl_v rfl (o_assign rfl) ?_
      refine tl_nil ?_
      refine q_then_n ?_
      refine tc_ret ?_
      obtain rfl : i = xs.length := by omega
      rw [List.take_length]
      exact ⟨v, res1 rfl rfl, rfl⟩

end Go.Vl
