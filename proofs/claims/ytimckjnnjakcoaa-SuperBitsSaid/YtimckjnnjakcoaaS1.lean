/- The sum of bytes: bits.More, bits.Sum, and the document's. Conditions: none. -/
import Derived.Test.YtimckjnnjakcoaaV3
set_option linter.unusedVariables false
set_option linter.unusedSimpArgs false
namespace Go.Vl
open Go Go.Proofs


/-! ### The sum's law -/
def crs (r : Nat) : Nat := (r / 2) ^^^ (2197175160 * (r % 2))
def crk : Nat → Nat → Nat
  | 0, r => r
  | k + 1, r => crs (crk k r)
def crL (r : Nat) : List Nat → Nat
  | [] => r
  | x :: xs => crL (crk 8 (r ^^^ x)) xs
def crc (s : Nat) (xs : List Nat) : Nat := crL (s ^^^ 4294967295) xs ^^^ 4294967295
theorem x32 {a b : Nat} (ha : a < 4294967296) (hb : b < 4294967296) : a ^^^ b < 4294967296 := Nat.xor_lt_two_pow (n := 32) ha hb
theorem crs_lt {r : Nat} (h : r < 4294967296) : crs r < 4294967296 := x32 (by omega) (by omega)
theorem crk_lt {r : Nat} (h : r < 4294967296) : ∀ k, crk k r < 4294967296
  | 0 => h
  | k + 1 => crs_lt (crk_lt h k)
theorem crL_lt : ∀ {xs : List Nat} {r : Nat}, r < 4294967296 → (∀ x ∈ xs, x < 256) → crL r xs < 4294967296
  | [], _, h, _ => h
  | x :: xs, r, h, hb => crL_lt (xs := xs) (crk_lt (x32 h (by have := hb x (by simp); omega)) 8) fun y hy => hb y (by simp [hy])
theorem crL_snoc : ∀ {xs : List Nat} {r x : Nat}, crL r (xs ++ [x]) = crk 8 (crL r xs ^^^ x)
  | [], _, _ => rfl
  | y :: ys, r, x => by show crL _ (ys ++ [x]) = _; rw [crL_snoc]; rfl
theorem crL_take {xs : List Nat} {r i : Nat} (h : i < xs.length) : crL r (xs.take (i + 1)) = crk 8 (crL r (xs.take i) ^^^ xs[i]) := by
  rw [List.take_succ_eq_append_getElem h, crL_snoc]
theorem crc_lt {s : Nat} {xs : List Nat} (h : s < 4294967296) (hb : ∀ x ∈ xs, x < 256) : crc s xs < 4294967296 := x32 (crL_lt (x32 h (by decide)) hb) (by decide)
theorem tk_b {xs : List Nat} {i : Nat} (hb : ∀ x ∈ xs, x < 256) : ∀ x ∈ xs.take i, x < 256 := fun x hx => hb x (List.mem_of_mem_take hx)
theorem and1 (r : Nat) : r &&& 1 = r % 2 := Nat.and_one_is_mod r
theorem crs_and (r : Nat) : (r / 2) ^^^ (2197175160 &&& (r % 2 * 4294967295)) = crs r := by
  unfold crs
  have : r % 2 = 0 ∨ r % 2 = 1 := by omega
  rcases this with h | h <;> rw [h] <;> rfl
theorem crk_and (k c : Nat) : (crk k c / 2 ^ 1) ^^^ (2197175160 &&& (crk k c % 2 * 4294967295)) = crk (k + 1) c := crs_and _
theorem crk_0 (c : Nat) : c = crk 0 c := rfl
theorem crL_0 (c : Nat) (xs : List Nat) : c = crL c (xs.take 0) := by rw [List.take_zero]; rfl
theorem crc_of (s : Nat) (xs : List Nat) {m : Nat} (h : xs.length = m) : crL (s ^^^ 4294967295) (xs.take m) ^^^ 4294967295 = crc s xs := by rw [← h, List.take_length]; rfl
theorem xor_half (a b : Nat) : (a ^^^ b) / 2 = a / 2 ^^^ b / 2 := by
  have := Nat.shiftRight_xor_distrib (a := a) (b := b) (i := 1)
  simpa [Nat.shiftRight_eq_div_pow] using this
theorem xor_low (a b : Nat) : (a ^^^ b) % 2 = (a % 2 + b % 2) % 2 := by
  rw [← Nat.and_one_is_mod, Nat.and_xor_distrib_right, Nat.and_one_is_mod, Nat.and_one_is_mod]
  have h1 : a % 2 = 0 ∨ a % 2 = 1 := by omega
  have h2 : b % 2 = 0 ∨ b % 2 = 1 := by omega
  rcases h1 with h1 | h1 <;> rcases h2 with h2 | h2 <;> rw [h1, h2] <;> rfl
/-- The document's register: the sum's, and what of the byte is not yet in it. -/
def rfk (k c x : Nat) : Nat := crk k c ^^^ x / 2 ^ k
theorem rfk_zero {c x : Nat} : rfk 0 (c ^^^ x) x = c := by
  unfold rfk crk; rw [Nat.pow_zero, Nat.div_one, Nat.xor_assoc, Nat.xor_self, Nat.xor_zero]
theorem rfk_eight {c x : Nat} (h : x < 256) : rfk 8 c x = crk 8 c := by
  unfold rfk; rw [Nat.div_eq_of_lt h, Nat.xor_zero]
theorem rfk_step {k c x : Nat} : rfk (k + 1) c x = if (x / 2 ^ k % 2 ≠ rfk k c x % 2) then (rfk k c x / 2) ^^^ 2197175160 else rfk k c x / 2 := by
  have h1 : rfk k c x / 2 = crk k c / 2 ^^^ x / 2 ^ (k + 1) := by unfold rfk; rw [xor_half, Nat.pow_succ, Nat.div_div_eq_div_mul]
  have h2 : rfk k c x % 2 = (crk k c % 2 + x / 2 ^ k % 2) % 2 := xor_low _ _
  have h3 : rfk (k + 1) c x = crs (crk k c) ^^^ x / 2 ^ (k + 1) := rfl
  rw [h1, h3]
  unfold crs
  by_cases h : crk k c % 2 = 1
  · rw [if_pos (by omega), h]; ac_rfl
  · have h0 : crk k c % 2 = 0 := by omega
    rw [if_neg (by omega), h0]; simp
theorem rfk_t {k c x : Nat} (h : ((x / 2 ^ k % 2 : Nat) : Int) ≠ ((rfk k c x % 2 : Nat) : Int)) : rfk k c x / 2 ^^^ 2197175160 = rfk (k + 1) c x := by
  rw [rfk_step, if_pos (by omega)]
theorem rfk_f {k c x : Nat} (h : ((x / 2 ^ k % 2 : Nat) : Int) = ((rfk k c x % 2 : Nat) : Int)) : rfk k c x / 2 = rfk (k + 1) c x := by
  rw [rfk_step, if_neg (by omega)]
section
variable {P : Program} {n : Nat} {ρ : Env} {A : SP} {dst : Option Tmp} {ty : TypeId} {pos : String} {after : Array Edge} {gd : Option (Nat × Bool)}
theorem o_quoU {t t' : TypeId} {x y : Operand} {k : IntKind} {a b : Nat} (hk : k.signed = false) (hx : ev n ρ x = .int k (a : Nat)) (hy : ev n ρ y = .int k (b : Nat)) (hb : 0 < b) (ha : a < 2 ^ k.bits) : OpV P n ρ A ⟨dst, .binOp .quo t x y t', ty, pos, after, gd⟩ (.int k ((a / b : Nat) : Int)) := (o_quo hx hy (by omega)).cast (by
  rw [Int.tdiv_eq_ediv_of_nonneg (by omega), show (a : Int) / (b : Int) = ((a / b : Nat) : Int) by simp, wrap_fit k hk _ (Nat.lt_of_le_of_lt (Nat.div_le_self _ _) ha)])
theorem o_remU {t t' : TypeId} {x y : Operand} {k : IntKind} {a b : Nat} (hx : ev n ρ x = .int k (a : Nat)) (hy : ev n ρ y = .int k (b : Nat)) (hb : 0 < b) : OpV P n ρ A ⟨dst, .binOp .rem t x y t', ty, pos, after, gd⟩ (.int k ((a % b : Nat) : Int)) := (o_rem hx hy (by omega)).cast (by
  rw [Int.tmod_eq_emod_of_nonneg (by omega), show (a : Int) % (b : Int) = ((a % b : Nat) : Int) by simp])
end
theorem rfk_lt {k c x : Nat} (hc : c < 4294967296) (hx : x < 256) : rfk k c x < 4294967296 := by
  refine x32 (crk_lt hc k) ?_
  have := Nat.div_le_self x (2 ^ k); omega

attribute [local irreducible] crk crL crc Sl pt ro

theorem More_c {A : SP} {a : Option Addr} {m c s : Nat} {xs : List Nat} (hr : Rs A a (bys xs) := by repeat (first | assumption | with_reducible exact rs_sl | with_reducible exact rs_pt0 | exact rs_none | apply Rs.left)) (hm : xs.length = m := by first | assumption | rfl) (hb : ∀ x ∈ xs, x < 256 := by assumption) (hs : s < 4294967296 := by omega) (hl : m ≤ 1099511627776 := by omega) :
    Fn Try.prog 150 #[.int .u32 (s : Nat), .slice a m c] (A) (fun r B => r = .int .u32 ((crc s xs : Nat) : Int) ∧ A = B) := by
  refine fn_enterW (args := [.int .u32 (s : Nat), .slice a m c]) Try.func150 rfl Try.ntmps150 (by simp) ?_
  refine tc_seq ?_
  refine tc_reg ?_
  refine tl_v rfl (o_assign (by conv => lhs; whnf)) ?_
  refine tl_nil ?_
  refine q_then_n ?_
  refine tc_seq ?_
  refine tc_reg ?_
  refine tl_v rfl (o_move (by conv => lhs; whnf)) ?_
  refine tl_v rfl (o_compl32 rfl hs) ?_
  refine tl_v rfl (o_assign (by conv => lhs; whnf)) ?_
  refine tl_nil ?_
  refine q_then_n ?_
  refine tc_seq ?_
  refine tc_seq ?_
  refine tc_reg ?_
  refine tl_v rfl (o_move (by conv => lhs; whnf)) ?_
  refine tl_v rfl (o_len Try.underlying28 rfl) ?_
  refine tl_v rfl (o_move (by conv => lhs; whnf)) ?_
  refine tl_nil ?_
  refine q_then_n ?_
  refine tc_block ?_
  refine tc_loop (fun kk ρ BB => ∃ (i : Nat), (i ≤ m) ∧ kk = m - i ∧ ρ 5 = .int .u32 ((crL (s ^^^ 4294967295) (xs.take i) : Nat) : Int) ∧ ρ 13 = .int .i64 (i : Nat) ∧ ρ 11 = .slice a m c ∧ ρ 12 = .int .i64 (m : Nat) ∧ BB = A) (m := m - (0)) ?_ ?_
  · exact ⟨0, by omega, rfl, congrArg (fun z : Nat => Value.int .u32 (z : Int)) (crL_0 _ _), rfl, rfl, rfl, rfl⟩
  · intro k ρ B hI
    obtain ⟨i, hp0, hkk1, hE5, hE13, hE11, hE12, hBA⟩ := hI
    obtain rfl := hBA.symm
    refine tc_env (d := 5) hE5 ?_
    refine tc_env (d := 13) hE13 ?_
    refine tc_env (d := 11) hE11 ?_
    refine tc_env (d := 12) hE12 ?_
    clear hE5 hE13 hE11 hE12
    refine tc_seq ?_
    refine tc_reg ?_
    refine tl_v rfl (o_lss rfl rfl) ?_
    refine tl_nil ?_
    refine q_then_n ?_
    refine tc_seq ?_
    refine tc_cond rfl (fun h => ?_) (fun h => ?_)
    · have hi : i < xs.length := by simp at h; omega
      have hx256 := hb _ (List.getElem_mem hi)
      have hC := crL_lt (x32 hs (by decide : 4294967295 < 4294967296)) (tk_b (i := i) hb)
      have hR := x32 hC (show xs[i] < 4294967296 by omega)
      refine tc_skip ?_
      refine q_then_n ?_
      refine tc_seq ?_
      refine tc_block ?_
      refine tc_seq ?_
      refine tc_reg ?_
      refine tl_v rfl (o_ixP1 Try.underlying28 sz5 rfl rfl (by first | omega | (simp only [bys_length, ints_length, wds_length, bos_length, List.length_append, List.length_take, List.length_drop, List.length_singleton]; omega)) (by repeat (first | exact nn_some | with_reducible exact nn_sl (by decide) | exact nn_rs (by assumption) (fun _ => by first | omega | (simp only [bys_length, ints_length, wds_length, bos_length, List.length_append, List.length_take, List.length_drop, List.length_singleton]; omega)) | apply Nn.left))) ?_
      refine tl_v rfl (o_ldP p5 rfl hr (bys_at (by assumption))) ?_
      refine tl_v rfl (o_assign (by conv => lhs; whnf)) ?_
      refine tl_nil ?_
      refine q_then_n ?_
      refine tc_seq ?_
      refine tc_reg ?_
      refine tl_v rfl (o_move (by conv => lhs; whnf)) ?_
      refine tl_v rfl (o_move (by conv => lhs; whnf)) ?_
      refine tl_v rfl (by first | exact o_conv32 Try.underlying5 Try.underlying114 rfl | exact o_conv Try.underlying5 Try.underlying114 rfl) ?_
      refine tl_env (d := 19) (v := .int .u32 ((xs[i] : Nat) : Int)) (congrArg (fun z : Nat => Value.int .u32 (z : Int)) (Nat.mod_eq_of_lt (by omega))) ?_
      refine tl_v rfl (o_xorN rfl rfl rfl (by show _ < 4294967296; assumption) (by show _ < 4294967296; omega)) ?_
      refine tl_v rfl (o_assign (by conv => lhs; whnf)) ?_
      refine tl_nil ?_
      refine q_then_n ?_
      refine tc_seq ?_
      refine tc_reg ?_
      refine tl_v rfl (o_move (by conv => lhs; whnf)) ?_
      refine tl_nil ?_
      refine q_then_n ?_
      refine tc_block ?_
      refine tc_loop (fun kk ρ BB => ∃ (k : Nat), (k ≤ 8) ∧ kk = 8 - k ∧ ρ 5 = .int .u32 ((crk k (crL (s ^^^ 4294967295) (xs.take i) ^^^ xs[i]) : Nat) : Int) ∧ ρ 21 = .int .i64 (k : Nat) ∧ ρ 11 = .slice a m c ∧ ρ 12 = .int .i64 (m : Nat) ∧ ρ 13 = .int .i64 (i : Nat) ∧ BB = A) (m := 8 - (0)) ?_ ?_
      · exact ⟨0, by omega, rfl, congrArg (fun z : Nat => Value.int .u32 (z : Int)) (crk_0 _), rfl, rfl, rfl, rfl, rfl⟩
      · intro k ρ B hI
        obtain ⟨k, hp0, hkk2, hE5, hE21, hE11, hE12, hE13, hBA⟩ := hI
        obtain rfl := hBA.symm
        refine tc_env (d := 5) hE5 ?_
        refine tc_env (d := 21) hE21 ?_
        refine tc_env (d := 11) hE11 ?_
        refine tc_env (d := 12) hE12 ?_
        refine tc_env (d := 13) hE13 ?_
        clear hE5 hE21 hE11 hE12 hE13
        refine tc_seq ?_
        refine tc_reg ?_
        refine tl_v rfl (o_lss rfl rfl) ?_
        refine tl_nil ?_
        refine q_then_n ?_
        refine tc_seq ?_
        refine tc_cond rfl (fun h => ?_) (fun h => ?_)
        · have hk := crk_lt hR k
          have hk8 : k < 8 := by simp at h; omega
          refine tc_skip ?_
          refine q_then_n ?_
          refine tc_seq ?_
          refine tc_block ?_
          refine tc_seq ?_
          refine tc_reg ?_
          refine tl_v rfl (o_move (by conv => lhs; whnf)) ?_
          refine tl_v rfl ((o_andN (b := 1) rfl rfl rfl (by show _ < 4294967296; assumption) (by decide)).cast (by rw [and1])) ?_
          refine tl_v rfl (o_assign (by conv => lhs; whnf)) ?_
          refine tl_nil ?_
          refine q_then_n ?_
          refine tc_seq ?_
          refine tc_reg ?_
          refine tl_v rfl (o_move (by conv => lhs; whnf)) ?_
          refine tl_v rfl (o_shrN (b := 1) rfl rfl rfl (by decide)) ?_
          refine tl_v rfl (o_assign (by conv => lhs; whnf)) ?_
          refine tl_nil ?_
          refine q_then_n ?_
          refine tc_reg ?_
          refine tl_v rfl (o_move (by conv => lhs; whnf)) ?_
          refine tl_v rfl (o_move (by conv => lhs; whnf)) ?_
          refine tl_v rfl (o_neg32 rfl (by omega)) ?_
          refine tl_v rfl (o_andN (a := 2197175160) rfl rfl rfl (by decide) (by show _ < 4294967296; omega)) ?_
          refine tl_v rfl (o_xorN rfl rfl rfl (by show _ < 4294967296; omega) (by show _ < 4294967296; exact Nat.and_lt_two_pow (n := 32) _ (by show _ < 4294967296; omega))) ?_
          refine tl_v rfl (o_assign (by conv => lhs; whnf)) ?_
          refine tl_nil ?_
          refine q_block_n (q_then_n ?_)
          refine tc_reg ?_
          refine tl_v rfl (by first | exact o_addI rfl rfl (by omega) | exact o_add rfl rfl) ?_
          refine tl_v rfl (o_move (by conv => lhs; whnf)) ?_
          refine tl_nil ?_
          refine q_then_n ?_
          exact ⟨_, by omega, k + 1, by omega, rfl, congrArg (fun z : Nat => Value.int .u32 (z : Int)) (crk_and _ _), rfl, rfl, rfl, rfl, rfl⟩
        · obtain rfl : k = 8 := by simp at h; omega
          refine tc_exit ?_
          refine q_then_e (q_then_e (q_block_x (q_block_n (q_then_n ?_))))
          refine tc_reg ?_
          refine tl_v rfl (by first | exact o_addI rfl rfl (by omega) | exact o_add rfl rfl) ?_
          refine tl_v rfl (o_move (by conv => lhs; whnf)) ?_
          refine tl_nil ?_
          refine q_then_n ?_
          exact ⟨_, by omega, i + 1, by omega, rfl, congrArg (fun z : Nat => Value.int .u32 (z : Int)) (crL_take hi).symm, rfl, rfl, rfl, rfl⟩
    · obtain rfl : i = m := by simp at h; omega
      have hC2 := crL_lt (x32 hs (by decide : 4294967295 < 4294967296)) (tk_b (i := i) hb)
      refine tc_exit ?_
      refine q_then_e (q_then_e (q_block_x (q_then_n ?_)))
      refine tc_seq ?_
      refine tc_reg ?_
      refine tl_v rfl (o_move (by conv => lhs; whnf)) ?_
      refine tl_v rfl (o_compl32 rfl hC2) ?_
      refine tl_v rfl (o_assign (by conv => lhs; whnf)) ?_
      refine tl_nil ?_
      refine q_then_n ?_
      refine tc_ret ?_
      exact ⟨.int .u32 ((crc s xs : Nat) : Int), A, res1 rfl (congrArg (fun z : Nat => Value.int .u32 (z : Int)) (crc_of s xs hm)), fun _ _ h => h, rfl, rfl⟩

theorem MoreR_c {A : SP} {a : Option Addr} {m c s : Nat} {xs : List Nat} (hr : Rs A a (bys xs) := by repeat (first | assumption | with_reducible exact rs_sl | with_reducible exact rs_pt0 | exact rs_none | apply Rs.left)) (hm : xs.length = m := by first | assumption | rfl) (hb : ∀ x ∈ xs, x < 256 := by assumption) (hs : s < 4294967296 := by omega) (hl : m ≤ 1099511627776 := by omega) :
    Fn Try.prog 133 #[.int .u32 (s : Nat), .slice a m c] (A) (fun r B => r = .int .u32 ((crc s xs : Nat) : Int) ∧ A = B) := by
  refine fn_enterW (args := [.int .u32 (s : Nat), .slice a m c]) Try.func133 rfl Try.ntmps133 (by simp) ?_
  refine tc_seq ?_
  refine tc_reg ?_
  refine tl_v rfl (o_assign (by conv => lhs; whnf)) ?_
  refine tl_nil ?_
  refine q_then_n ?_
  refine tc_seq ?_
  refine tc_reg ?_
  refine tl_v rfl (o_move (by conv => lhs; whnf)) ?_
  refine tl_v rfl (by first | exact o_conv64 Try.underlying114 Try.underlying53 rfl | exact o_conv Try.underlying114 Try.underlying53 rfl) ?_
  refine tl_env (d := 11) (v := .int .u64 ((s : Nat) : Int)) (congrArg (fun z : Nat => Value.int .u64 (z : Int)) (Nat.mod_eq_of_lt (by omega))) ?_
  refine tl_v rfl (o_xorN (b := 4294967295) rfl rfl rfl (by show _ < 18446744073709551616; omega) (by decide)) ?_
  refine tl_v rfl (o_assign (by conv => lhs; whnf)) ?_
  refine tl_nil ?_
  refine q_then_n ?_
  refine tc_seq ?_
  refine tc_seq ?_
  refine tc_reg ?_
  refine tl_v rfl (o_assign (by conv => lhs; whnf)) ?_
  refine tl_nil ?_
  refine q_then_n ?_
  refine tc_block ?_
  refine tc_loop (fun kk ρ BB => ∃ (i : Nat), (i ≤ m) ∧ kk = m - i ∧ ρ 5 = .int .u64 ((crL (s ^^^ 4294967295) (xs.take i) : Nat) : Int) ∧ ρ 6 = .int .i64 (i : Nat) ∧ ρ 1 = .slice a m c ∧ BB = A) (m := m - (0)) ?_ ?_
  · exact ⟨0, by omega, rfl, congrArg (fun z : Nat => Value.int .u64 (z : Int)) (crL_0 _ _), rfl, rfl, rfl⟩
  · intro k ρ B hI
    obtain ⟨i, hp0, hkk1, hE5, hE6, hE1, hBA⟩ := hI
    obtain rfl := hBA.symm
    refine tc_env (d := 5) hE5 ?_
    refine tc_env (d := 6) hE6 ?_
    refine tc_env (d := 1) hE1 ?_
    clear hE5 hE6 hE1
    refine tc_seq ?_
    refine tc_seq ?_
    refine tc_reg ?_
    refine tl_v rfl (o_move (by conv => lhs; whnf)) ?_
    refine tl_v rfl (o_move (by conv => lhs; whnf)) ?_
    refine tl_v rfl (o_len Try.underlying28 rfl) ?_
    refine tl_v rfl (o_lss rfl rfl) ?_
    refine tl_nil ?_
    refine q_then_n ?_
    refine tc_cond rfl (fun h => ?_) (fun h => ?_)
    · have hi : i < xs.length := by simp at h; omega
      have hx256 := hb _ (List.getElem_mem hi)
      have hC := crL_lt (x32 hs (by decide : 4294967295 < 4294967296)) (tk_b (i := i) hb)
      have hR := x32 hC (show xs[i] < 4294967296 by omega)
      refine tc_skip ?_
      refine q_then_n ?_
      refine tc_seq ?_
      refine tc_block ?_
      refine tc_seq ?_
      refine tc_reg ?_
      refine tl_v rfl (o_assign (by conv => lhs; whnf)) ?_
      refine tl_nil ?_
      refine q_then_n ?_
      refine tc_block ?_
      refine tc_loop (fun kk ρ BB => ∃ (k : Nat), (k ≤ 8) ∧ kk = 8 - k ∧ ρ 5 = .int .u64 ((rfk k (crL (s ^^^ 4294967295) (xs.take i) ^^^ xs[i]) xs[i] : Nat) : Int) ∧ ρ 7 = .int .i64 (k : Nat) ∧ ρ 1 = .slice a m c ∧ ρ 6 = .int .i64 (i : Nat) ∧ BB = A) (m := 8 - (0)) ?_ ?_
      · exact ⟨0, by omega, rfl, congrArg (fun z : Nat => Value.int .u64 (z : Int)) rfk_zero.symm, rfl, rfl, rfl, rfl⟩
      · intro k ρ B hI
        obtain ⟨k, hp0, hkk2, hE5, hE7, hE1, hE6, hBA⟩ := hI
        obtain rfl := hBA.symm
        refine tc_env (d := 5) hE5 ?_
        refine tc_env (d := 7) hE7 ?_
        refine tc_env (d := 1) hE1 ?_
        refine tc_env (d := 6) hE6 ?_
        clear hE5 hE7 hE1 hE6
        refine tc_seq ?_
        refine tc_seq ?_
        refine tc_reg ?_
        refine tl_v rfl (o_move (by conv => lhs; whnf)) ?_
        refine tl_v rfl (o_lss rfl rfl) ?_
        refine tl_nil ?_
        refine q_then_n ?_
        refine tc_cond rfl (fun h => ?_) (fun h => ?_)
        · have hk8 : k < 8 := by simp at h; omega
          have hF := rfk_lt (k := k) hR hx256
          have hd := Nat.div_le_self xs[i] (2 ^ k)
          refine tc_skip ?_
          refine q_then_n ?_
          refine tc_seq ?_
          refine tc_block ?_
          refine tc_seq ?_
          refine tc_reg ?_
          refine tl_v rfl (o_move (by conv => lhs; whnf)) ?_
          refine tl_v rfl (o_move (by conv => lhs; whnf)) ?_
          refine tl_v rfl (o_ixP1 Try.underlying28 sz5 rfl rfl (by first | omega | (simp only [bys_length, ints_length, wds_length, bos_length, List.length_append, List.length_take, List.length_drop, List.length_singleton]; omega)) (by repeat (first | exact nn_some | with_reducible exact nn_sl (by decide) | exact nn_rs (by assumption) (fun _ => by first | omega | (simp only [bys_length, ints_length, wds_length, bos_length, List.length_append, List.length_take, List.length_drop, List.length_singleton]; omega)) | apply Nn.left))) ?_
          refine tl_v rfl (o_ldP p5 rfl hr (bys_at (by assumption))) ?_
          refine tl_v rfl (o_move (by conv => lhs; whnf)) ?_
          refine tl_v rfl (o_shrN (b := k) rfl rfl rfl (by show k ≤ 8; omega)) ?_
          refine tl_v rfl (by first | exact o_conv64 Try.underlying5 Try.underlying53 rfl | exact o_conv Try.underlying5 Try.underlying53 rfl) ?_
          refine tl_env (d := 29) (v := .int .u64 ((xs[i] / 2 ^ k : Nat) : Int)) (congrArg (fun z : Nat => Value.int .u64 (z : Int)) (Nat.mod_eq_of_lt (by omega))) ?_
          refine tl_v rfl (o_remU (b := 2) rfl rfl (by decide)) ?_
          refine tl_v rfl (o_assign (by conv => lhs; whnf)) ?_
          refine tl_nil ?_
          refine q_then_n ?_
          refine tc_seq ?_
          refine tc_reg ?_
          refine tl_v rfl (o_move (by conv => lhs; whnf)) ?_
          refine tl_v rfl (o_move (by conv => lhs; whnf)) ?_
          refine tl_v rfl (o_remU (b := 2) rfl rfl (by decide)) ?_
          refine tl_v rfl (o_nei rfl rfl) ?_
          refine tl_v rfl (o_assign (by conv => lhs; whnf)) ?_
          refine tl_nil ?_
          refine q_then_n ?_
          refine tc_seq ?_
          refine tc_reg ?_
          refine tl_v rfl (o_move (by conv => lhs; whnf)) ?_
          refine tl_v rfl (o_quoU (b := 2) rfl rfl rfl (by decide) (by show _ < 18446744073709551616; omega)) ?_
          refine tl_v rfl (o_assign (by conv => lhs; whnf)) ?_
          refine tl_nil ?_
          refine q_then_n ?_
          refine tc_seq ?_
          refine tc_reg ?_
          refine tl_v rfl (o_move (by conv => lhs; whnf)) ?_
          refine tl_nil ?_
          refine q_then_n ?_
          refine tc_cut (fun ρ BB => ρ 5 = .int .u64 ((rfk (k + 1) (crL (s ^^^ 4294967295) (xs.take i) ^^^ xs[i]) xs[i] : Nat) : Int) ∧ ρ 1 = .slice a m c ∧ ρ 6 = .int .i64 (i : Nat) ∧ ρ 7 = .int .i64 (k : Nat) ∧ BB = A) ?_ ?_
          · skip
            refine tc_cond rfl (fun h => ?_) (fun h => ?_)
            · try simp only [decide_eq_true_eq, decide_eq_false_iff_not, Bool.not_eq_true', Bool.not_eq_false', Option.isNone_some, Option.isNone_none, Bool.not_true, Bool.not_false] at h
              refine tc_reg ?_
              refine tl_v rfl (o_move (by conv => lhs; whnf)) ?_
              refine tl_v rfl (o_xorN (b := 2197175160) rfl rfl rfl (by show _ < 18446744073709551616; omega) (by decide)) ?_
              refine tl_v rfl (o_assign (by conv => lhs; whnf)) ?_
              refine tl_nil ?_
              exact ⟨by first | exact congrArg (fun z : Nat => Value.int .u64 (z : Int)) (rfk_t h) | exact congrArg (fun z : Nat => Value.int .u64 (z : Int)) (rfk_f (Classical.not_not.1 h)), rfl, rfl, rfl, rfl⟩
            · try simp only [decide_eq_true_eq, decide_eq_false_iff_not, Bool.not_eq_true', Bool.not_eq_false', Option.isNone_some, Option.isNone_none, Bool.not_true, Bool.not_false] at h
              refine tc_skip ?_
              exact ⟨by first | exact congrArg (fun z : Nat => Value.int .u64 (z : Int)) (rfk_t h) | exact congrArg (fun z : Nat => Value.int .u64 (z : Int)) (rfk_f (Classical.not_not.1 h)), rfl, rfl, rfl, rfl⟩
          · intro ρ B hI
            obtain ⟨hE5, hE1, hE6, hE7, hBA⟩ := hI
            obtain rfl := hBA.symm
            refine q_block_n (q_then_n ?_)
            refine tc_env (d := 5) hE5 ?_
            refine tc_env (d := 1) hE1 ?_
            refine tc_env (d := 6) hE6 ?_
            refine tc_env (d := 7) hE7 ?_
            clear hE5 hE1 hE6 hE7
            refine tc_reg ?_
            refine tl_v rfl (o_move (by conv => lhs; whnf)) ?_
            refine tl_v rfl (by first | exact o_addI rfl rfl (by omega) | exact o_add rfl rfl) ?_
            refine tl_v rfl (o_assign (by conv => lhs; whnf)) ?_
            refine tl_nil ?_
            refine q_then_n ?_
            exact ⟨_, by omega, k + 1, by omega, rfl, rfl, rfl, rfl, rfl, rfl⟩
        · obtain rfl : k = 8 := by simp at h; omega
          refine tc_exit ?_
          refine q_then_e (q_then_e (q_block_x (q_block_n (q_then_n ?_))))
          refine tc_reg ?_
          refine tl_v rfl (o_move (by conv => lhs; whnf)) ?_
          refine tl_v rfl (by first | exact o_addI rfl rfl (by omega) | exact o_add rfl rfl) ?_
          refine tl_v rfl (o_assign (by conv => lhs; whnf)) ?_
          refine tl_nil ?_
          refine q_then_n ?_
          exact ⟨_, by omega, i + 1, by omega, rfl, congrArg (fun z : Nat => Value.int .u64 (z : Int)) ((rfk_eight hx256).trans (crL_take hi).symm), rfl, rfl, rfl⟩
    · obtain rfl : i = m := by simp at h; omega
      have hC2 := crL_lt (x32 hs (by decide : 4294967295 < 4294967296)) (tk_b (i := i) hb)
      refine tc_exit ?_
      refine q_then_e (q_then_e (q_block_x (q_then_n ?_)))
      refine tc_seq ?_
      refine tc_reg ?_
      refine tl_v rfl (o_move (by conv => lhs; whnf)) ?_
      refine tl_v rfl (o_xorN (b := 4294967295) rfl rfl rfl (by show _ < 18446744073709551616; omega) (by decide)) ?_
      refine tl_v rfl ((o_conv32 Try.underlying53 Try.underlying114 rfl).cast (congrArg (fun z : Nat => Value.int .u32 (z : Int)) (Nat.mod_eq_of_lt (x32 (b := 4294967295) hC2 (by decide))))) ?_
      refine tl_v rfl (o_assign (by conv => lhs; whnf)) ?_
      refine tl_nil ?_
      refine q_then_n ?_
      refine tc_ret ?_
      exact ⟨.int .u32 ((crc s xs : Nat) : Int), A, res1 rfl (congrArg (fun z : Nat => Value.int .u32 (z : Int)) (crc_of s xs hm)), fun _ _ h => h, rfl, rfl⟩


end Go.Vl
