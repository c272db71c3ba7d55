/- Walks of package bits: numbers as bytes. Conditions: none. -/
import Derived.Test.YtimckjnnjakcoaaTypes
import Derived.Test.YtimckjnnjakcoaaNat
import Derived.Test.YtimckjnnjakcoaaBase
import Derived.Test.YtimckjnnjakcoaaProg
set_option linter.unusedVariables false
set_option linter.unusedSimpArgs false
namespace Go.Vl
open Go Go.Proofs


theorem set_getElem {α : Type} {l : List α} {i : Nat} (hi : i < l.length) : l.set i l[i] = l := by
  apply List.ext_getElem?
  intro j
  by_cases hj : j = i
  · subst hj; rw [List.getElem?_set_self hi, List.getElem?_eq_getElem hi]
  · rw [List.getElem?_set_ne (Ne.symm hj)]
/-- A number's n lowest bytes, the lowest first. -/
def le : Nat → Nat → List Nat
  | 0, _ => []
  | n + 1, v => v % 256 :: le n (v / 256)
theorem le_length (n : Nat) : ∀ v, (le n v).length = n := by
  induction n with
  | zero => intro v; rfl
  | succ n ih => intro v; simp [le, ih]
theorem le_snoc (n : Nat) : ∀ v, le (n + 1) v = le n v ++ [v / 256 ^ n % 256] := by
  induction n with
  | zero => intro v; simp [le]
  | succ n ih =>
    intro v
    rw [le, ih, le, List.cons_append, Nat.pow_succ, Nat.mul_comm, ← Nat.div_div_eq_div_mul]
theorem two_pow_ne (i w : Nat) (h : i < w) : 2 ^ i % 2 ^ w ≠ 0 := by
  rw [Nat.mod_eq_of_lt (Nat.pow_lt_pow_right (by decide) h)]
  exact Nat.ne_of_gt (Nat.two_pow_pos i)
theorem two_pow_step (i w : Nat) : 2 ^ i % 2 ^ w * 2 % 2 ^ w = 2 ^ (i + 1) % 2 ^ w := by
  rw [Nat.mod_mul_mod, Nat.pow_succ]

theorem size8_f (A : SP) :
    Fn Try.prog 145 #[] (A) (fun r B => r = .int .i64 1 ∧ A = B) := by
  refine fn_enter (args := []) Try.func145 rfl Try.ntmps145 (by simp) ?_
  refine tc_seq ?_
  refine tc_reg ?_
  refine tl_v rfl (o_assign rfl) ?_
  refine tl_nil ?_
  refine q_then_n ?_
  refine tc_seq ?_
  refine tc_reg ?_
  refine tl_v rfl (o_assign rfl) ?_
  refine tl_nil ?_
  refine q_then_n ?_
  refine tc_seq ?_
  refine tc_seq ?_
  refine tc_reg ?_
  refine tl_v rfl (by first | exact o_conv8 Try.underlying3 Try.underlying5 rfl | exact o_conv Try.underlying3 Try.underlying5 rfl) ?_
  refine tl_v rfl (o_assign rfl) ?_
  refine tl_nil ?_
  refine q_then_n ?_
  refine tc_block ?_
  refine tc_loop (fun k ρ B => B = A ∧ ∃ i : Nat, i ≤ 8 ∧ k = 8 - i ∧ ρ 1 = .int .i64 i ∧ ρ 2 = .int .u8 ((2 ^ i % 2 ^ 8 : Nat) : Int)) (m := 8) ?_ ?_
  · exact ⟨rfl, 0, by omega, rfl, rfl, rfl⟩
  · intro k ρ B hI
    obtain ⟨rfl, i, hi, rfl, h1, h2⟩ := hI
    refine tc_env (d := 1) h1 ?_
    refine tc_env (d := 2) h2 ?_
    refine tc_seq ?_
    refine tc_seq ?_
    refine tc_reg ?_
    refine tl_v rfl (o_move rfl) ?_
    refine tl_v rfl (o_nei rfl rfl) ?_
    refine tl_nil ?_
    refine q_then_n ?_
    refine tc_cond rfl (fun h => ?_) (fun h => ?_)
    · have hlt : i < 8 := by
        rcases Nat.lt_or_ge i 8 with h' | h'
        · exact h'
        · exfalso; obtain rfl : i = 8 := by omega
          revert h; decide
      refine tc_skip ?_
      refine q_then_n ?_
      refine tc_seq ?_
      refine tc_block ?_
      refine tc_reg ?_
      refine tl_v rfl (o_move rfl) ?_
      refine tl_v rfl (by first | exact o_addI rfl rfl (by omega) | exact o_add rfl rfl) ?_
      refine tl_v rfl (o_assign rfl) ?_
      refine tl_nil ?_
      refine q_block_n (q_then_n ?_)
      refine tc_reg ?_
      refine tl_v rfl (o_move rfl) ?_
      refine tl_v rfl (o_shlm (b := 1) rfl rfl rfl rfl (by decide)) ?_
      refine tl_v rfl (o_assign rfl) ?_
      refine tl_nil ?_
      refine q_then_n ?_
      exact ⟨_, by omega, rfl, i + 1, by omega, rfl, rfl, congrArg (fun x : Nat => Value.int .u8 (x : Int)) (two_pow_step i 8)⟩
    · have hge : i = 8 := by
        rcases Nat.lt_or_ge i 8 with h' | h'
        · exfalso; have h0 := two_pow_ne i 8 h'; generalize 2 ^ i % 2 ^ 8 = x at h h0; revert h; simp; omega
        · omega
      subst hge
      refine tc_exit ?_
      refine q_then_e (q_then_e (q_block_x (q_then_n ?_)))
      refine tc_seq ?_
      refine tc_reg ?_
      refine tl_v rfl (o_move rfl) ?_
      refine tl_v rfl (o_quoI (a := 8) rfl rfl (by omega)) ?_
      refine tl_v rfl (o_assign rfl) ?_
      refine tl_nil ?_
      refine q_then_n ?_
      refine tc_ret ?_
      exact ⟨.int .i64 1, res1 rfl rfl, rfl, rfl⟩

theorem size16_f (A : SP) :
    Fn Try.prog 151 #[] (A) (fun r B => r = .int .i64 2 ∧ A = B) := by
  refine fn_enter (args := []) Try.func151 rfl Try.ntmps151 (by simp) ?_
  refine tc_seq ?_
  refine tc_reg ?_
  refine tl_v rfl (o_assign rfl) ?_
  refine tl_nil ?_
  refine q_then_n ?_
  refine tc_seq ?_
  refine tc_reg ?_
  refine tl_v rfl (o_assign rfl) ?_
  refine tl_nil ?_
  refine q_then_n ?_
  refine tc_seq ?_
  refine tc_seq ?_
  refine tc_reg ?_
  refine tl_v rfl (by first | exact o_conv16 Try.underlying3 Try.underlying167 rfl | exact o_conv Try.underlying3 Try.underlying167 rfl) ?_
  refine tl_v rfl (o_assign rfl) ?_
  refine tl_nil ?_
  refine q_then_n ?_
  refine tc_block ?_
  refine tc_loop (fun k ρ B => B = A ∧ ∃ i : Nat, i ≤ 16 ∧ k = 16 - i ∧ ρ 1 = .int .i64 i ∧ ρ 2 = .int .u16 ((2 ^ i % 2 ^ 16 : Nat) : Int)) (m := 16) ?_ ?_
  · exact ⟨rfl, 0, by omega, rfl, rfl, rfl⟩
  · intro k ρ B hI
    obtain ⟨rfl, i, hi, rfl, h1, h2⟩ := hI
    refine tc_env (d := 1) h1 ?_
    refine tc_env (d := 2) h2 ?_
    refine tc_seq ?_
    refine tc_seq ?_
    refine tc_reg ?_
    refine tl_v rfl (o_move rfl) ?_
    refine tl_v rfl (o_nei rfl rfl) ?_
    refine tl_nil ?_
    refine q_then_n ?_
    refine tc_cond rfl (fun h => ?_) (fun h => ?_)
    · have hlt : i < 16 := by
        rcases Nat.lt_or_ge i 16 with h' | h'
        · exact h'
        · exfalso; obtain rfl : i = 16 := by omega
          revert h; decide
      refine tc_skip ?_
      refine q_then_n ?_
      refine tc_seq ?_
      refine tc_block ?_
      refine tc_reg ?_
      refine tl_v rfl (o_move rfl) ?_
      refine tl_v rfl (by first | exact o_addI rfl rfl (by omega) | exact o_add rfl rfl) ?_
      refine tl_v rfl (o_assign rfl) ?_
      refine tl_nil ?_
      refine q_block_n (q_then_n ?_)
      refine tc_reg ?_
      refine tl_v rfl (o_move rfl) ?_
      refine tl_v rfl (o_shlm (b := 1) rfl rfl rfl rfl (by decide)) ?_
      refine tl_v rfl (o_assign rfl) ?_
      refine tl_nil ?_
      refine q_then_n ?_
      exact ⟨_, by omega, rfl, i + 1, by omega, rfl, rfl, congrArg (fun x : Nat => Value.int .u16 (x : Int)) (two_pow_step i 16)⟩
    · have hge : i = 16 := by
        rcases Nat.lt_or_ge i 16 with h' | h'
        · exfalso; have h0 := two_pow_ne i 16 h'; generalize 2 ^ i % 2 ^ 16 = x at h h0; revert h; simp; omega
        · omega
      subst hge
      refine tc_exit ?_
      refine q_then_e (q_then_e (q_block_x (q_then_n ?_)))
      refine tc_seq ?_
      refine tc_reg ?_
      refine tl_v rfl (o_move rfl) ?_
      refine tl_v rfl (o_quoI (a := 16) rfl rfl (by omega)) ?_
      refine tl_v rfl (o_assign rfl) ?_
      refine tl_nil ?_
      refine q_then_n ?_
      refine tc_ret ?_
      exact ⟨.int .i64 2, res1 rfl rfl, rfl, rfl⟩

theorem size32_f (A : SP) :
    Fn Try.prog 146 #[] (A) (fun r B => r = .int .i64 4 ∧ A = B) := by
  refine fn_enter (args := []) Try.func146 rfl Try.ntmps146 (by simp) ?_
  refine tc_seq ?_
  refine tc_reg ?_
  refine tl_v rfl (o_assign rfl) ?_
  refine tl_nil ?_
  refine q_then_n ?_
  refine tc_seq ?_
  refine tc_reg ?_
  refine tl_v rfl (o_assign rfl) ?_
  refine tl_nil ?_
  refine q_then_n ?_
  refine tc_seq ?_
  refine tc_seq ?_
  refine tc_reg ?_
  refine tl_v rfl (by first | exact o_conv32 Try.underlying3 Try.underlying114 rfl | exact o_conv Try.underlying3 Try.underlying114 rfl) ?_
  refine tl_v rfl (o_assign rfl) ?_
  refine tl_nil ?_
  refine q_then_n ?_
  refine tc_block ?_
  refine tc_loop (fun k ρ B => B = A ∧ ∃ i : Nat, i ≤ 32 ∧ k = 32 - i ∧ ρ 1 = .int .i64 i ∧ ρ 2 = .int .u32 ((2 ^ i % 2 ^ 32 : Nat) : Int)) (m := 32) ?_ ?_
  · exact ⟨rfl, 0, by omega, rfl, rfl, rfl⟩
  · intro k ρ B hI
    obtain ⟨rfl, i, hi, rfl, h1, h2⟩ := hI
    refine tc_env (d := 1) h1 ?_
    refine tc_env (d := 2) h2 ?_
    refine tc_seq ?_
    refine tc_seq ?_
    refine tc_reg ?_
    refine tl_v rfl (o_move rfl) ?_
    refine tl_v rfl (o_nei rfl rfl) ?_
    refine tl_nil ?_
    refine q_then_n ?_
    refine tc_cond rfl (fun h => ?_) (fun h => ?_)
    · have hlt : i < 32 := by
        rcases Nat.lt_or_ge i 32 with h' | h'
        · exact h'
        · exfalso; obtain rfl : i = 32 := by omega
          revert h; decide
      refine tc_skip ?_
      refine q_then_n ?_
      refine tc_seq ?_
      refine tc_block ?_
      refine tc_reg ?_
      refine tl_v rfl (o_move rfl) ?_
      refine tl_v rfl (by first | exact o_addI rfl rfl (by omega) | exact o_add rfl rfl) ?_
      refine tl_v rfl (o_assign rfl) ?_
      refine tl_nil ?_
      refine q_block_n (q_then_n ?_)
      refine tc_reg ?_
      refine tl_v rfl (o_move rfl) ?_
      refine tl_v rfl (o_shlm (b := 1) rfl rfl rfl rfl (by decide)) ?_
      refine tl_v rfl (o_assign rfl) ?_
      refine tl_nil ?_
      refine q_then_n ?_
      exact ⟨_, by omega, rfl, i + 1, by omega, rfl, rfl, congrArg (fun x : Nat => Value.int .u32 (x : Int)) (two_pow_step i 32)⟩
    · have hge : i = 32 := by
        rcases Nat.lt_or_ge i 32 with h' | h'
        · exfalso; have h0 := two_pow_ne i 32 h'; generalize 2 ^ i % 2 ^ 32 = x at h h0; revert h; simp; omega
        · omega
      subst hge
      refine tc_exit ?_
      refine q_then_e (q_then_e (q_block_x (q_then_n ?_)))
      refine tc_seq ?_
      refine tc_reg ?_
      refine tl_v rfl (o_move rfl) ?_
      refine tl_v rfl (o_quoI (a := 32) rfl rfl (by omega)) ?_
      refine tl_v rfl (o_assign rfl) ?_
      refine tl_nil ?_
      refine q_then_n ?_
      refine tc_ret ?_
      exact ⟨.int .i64 4, res1 rfl rfl, rfl, rfl⟩

theorem size64_f (A : SP) :
    Fn Try.prog 135 #[] (A) (fun r B => r = .int .i64 8 ∧ A = B) := by
  refine fn_enter (args := []) Try.func135 rfl Try.ntmps135 (by simp) ?_
  refine tc_seq ?_
  refine tc_reg ?_
  refine tl_v rfl (o_assign rfl) ?_
  refine tl_nil ?_
  refine q_then_n ?_
  refine tc_seq ?_
  refine tc_reg ?_
  refine tl_v rfl (o_assign rfl) ?_
  refine tl_nil ?_
  refine q_then_n ?_
  refine tc_seq ?_
  refine tc_seq ?_
  refine tc_reg ?_
  refine tl_v rfl (by first | exact o_conv64 Try.underlying3 Try.underlying53 rfl | exact o_conv Try.underlying3 Try.underlying53 rfl) ?_
  refine tl_v rfl (o_assign rfl) ?_
  refine tl_nil ?_
  refine q_then_n ?_
  refine tc_block ?_
  refine tc_loop (fun k ρ B => B = A ∧ ∃ i : Nat, i ≤ 64 ∧ k = 64 - i ∧ ρ 1 = .int .i64 i ∧ ρ 2 = .int .u64 ((2 ^ i % 2 ^ 64 : Nat) : Int)) (m := 64) ?_ ?_
  · exact ⟨rfl, 0, by omega, rfl, rfl, rfl⟩
  · intro k ρ B hI
    obtain ⟨rfl, i, hi, rfl, h1, h2⟩ := hI
    refine tc_env (d := 1) h1 ?_
    refine tc_env (d := 2) h2 ?_
    refine tc_seq ?_
    refine tc_seq ?_
    refine tc_reg ?_
    refine tl_v rfl (o_move rfl) ?_
    refine tl_v rfl (o_nei rfl rfl) ?_
    refine tl_nil ?_
    refine q_then_n ?_
    refine tc_cond rfl (fun h => ?_) (fun h => ?_)
    · have hlt : i < 64 := by
        rcases Nat.lt_or_ge i 64 with h' | h'
        · exact h'
        · exfalso; obtain rfl : i = 64 := by omega
          revert h; decide
      refine tc_skip ?_
      refine q_then_n ?_
      refine tc_seq ?_
      refine tc_block ?_
      refine tc_reg ?_
      refine tl_v rfl (o_move rfl) ?_
      refine tl_v rfl (by first | exact o_addI rfl rfl (by omega) | exact o_add rfl rfl) ?_
      refine tl_v rfl (o_assign rfl) ?_
      refine tl_nil ?_
      refine q_block_n (q_then_n ?_)
      refine tc_reg ?_
      refine tl_v rfl (o_move rfl) ?_
      refine tl_v rfl (o_shlm (b := 1) rfl rfl rfl rfl (by decide)) ?_
      refine tl_v rfl (o_assign rfl) ?_
      refine tl_nil ?_
      refine q_then_n ?_
      exact ⟨_, by omega, rfl, i + 1, by omega, rfl, rfl, congrArg (fun x : Nat => Value.int .u64 (x : Int)) (two_pow_step i 64)⟩
    · have hge : i = 64 := by
        rcases Nat.lt_or_ge i 64 with h' | h'
        · exfalso; have h0 := two_pow_ne i 64 h'; generalize 2 ^ i % 2 ^ 64 = x at h h0; revert h; simp; omega
        · omega
      subst hge
      refine tc_exit ?_
      refine q_then_e (q_then_e (q_block_x (q_then_n ?_)))
      refine tc_seq ?_
      refine tc_reg ?_
      refine tl_v rfl (o_move rfl) ?_
      refine tl_v rfl (o_quoI (a := 64) rfl rfl (by omega)) ?_
      refine tl_v rfl (o_assign rfl) ?_
      refine tl_nil ?_
      refine q_then_n ?_
      refine tc_ret ?_
      exact ⟨.int .i64 8, res1 rfl rfl, rfl, rfl⟩


theorem le_div (v i : Nat) : v / 256 ^ i / 2 ^ 8 = v / 256 ^ (i + 1) := by rw [show (2 : Nat) ^ 8 = 256 from rfl, Nat.div_div_eq_div_mul, Nat.pow_succ]
theorem put_eq (xs : List Nat) (v i : Nat) : bys (xs ++ le i v) ++ [Value.int .u8 ((v / 256 ^ i % 256 : Nat) : Int)] = bys (xs ++ le (i + 1) v) := by
  rw [le_snoc, ← List.append_assoc, bys_append (xs ++ le i v)]; rfl
theorem copy_eq (xs : List Nat) (m : Nat) (z : Value) : (splice (List.replicate (xs.length + m) z) 0 ((bys xs).take xs.length)).take (xs.length * 1) = bys xs := by
  have : (bys xs).take xs.length = bys xs := List.take_of_length_le (by rw [bys_length]; exact Nat.le_refl _)
  rw [this, splice_eq (by simp [bys_length]), Nat.mul_one]
  simp [bys_length]

theorem Put8_f (A : SP) (a : Option Addr) (c : Nat) (xs : List Nat) (v : Nat) (hr : Rd A a (bys xs)) (hv : v < 256) (hl : xs.length ≤ 1099511627776) :
    Fn Try.prog 121 #[.slice a xs.length c, .int .u8 (v : Nat)] (A) (fun r B => ∃ u, r = u ∧ B = A * Sl 1 u (xs.length + 1) (bys (xs ++ le 1 v))) := by
  refine fn_enter (args := [.slice a xs.length c, .int .u8 (v : Nat)]) Try.func121 rfl Try.ntmps121 (by simp) ?_
  refine tc_seq ?_
  refine tc_reg ?_
  refine tl_v rfl (o_assign rfl) ?_
  refine tl_nil ?_
  refine q_then_n ?_
  refine tc_seq ?_
  refine tc_reg ?_
  refine tl_v rfl (o_move rfl) ?_
  refine tl_v rfl (o_len Try.underlying28 rfl) ?_
  refine tl_v rfl (o_move rfl) ?_
  refine tl_v rfl (o_len Try.underlying28 rfl) ?_
  refine tl_v rfl (by first | exact o_addI rfl rfl (by omega) | exact o_add rfl rfl) ?_
  refine tl_x rfl (o_makeSlice (len := xs.length) (cap := xs.length + 8) Try.underlying28 sz5 by5 z5 rfl rfl rfl (by omega) (by omega) (by omega)) ?_
  rintro _ _ ⟨b12, rfl, rfl⟩
  refine tl_v rfl (o_assign rfl) ?_
  refine tl_nil ?_
  refine q_then_n ?_
  refine tc_seq ?_
  refine tc_reg ?_
  refine tl_v rfl (o_move rfl) ?_
  refine tl_v rfl (o_move rfl) ?_
  refine tl_x rfl (o_copy (xs := bys xs) (m := xs.length) Try.underlying28 sz5 rfl rfl hr.left (bys_length xs) (Nat.min_self _) bys_oneC (by simp) rfl upd_here) ?_
  rintro _ _ ⟨rfl, rfl⟩
  refine tl_pre (fun _ _ h => sl_new (k := 1) (n := xs.length) (cap := xs.length + 8) h (by omega) (by simp [splice_length]) (copy_eq xs 8 _)) ?_
  refine tl_nil ?_
  refine q_then_n ?_
  refine tc_seq ?_
  refine tc_reg ?_
  refine tl_v rfl (o_move rfl) ?_
  refine tl_v rfl (o_convI Try.underlying5 Try.underlying53 rfl (wrap_fit .u64 rfl v (by show v < 2 ^ 64; omega))) ?_
  refine tl_v rfl (o_assign rfl) ?_
  refine tl_nil ?_
  refine q_then_n ?_
  refine tc_seq ?_
  refine tc_seq ?_
  refine tc_reg ?_
  refine tl_c rfl (o_call bd145 rfl (size8_f _)) ?_
  rintro _ _ ⟨rfl, rfl⟩
  refine tl_v rfl (o_move rfl) ?_
  refine tl_nil ?_
  refine q_then_n ?_
  refine tc_block ?_
  refine tc_loop (fun k ρ B => ∃ (i : Nat) (u : Value), i ≤ 1 ∧ k = 1 - i ∧ ρ 5 = u ∧ ρ 6 = .int .u64 ((v / 256 ^ i : Nat) : Int) ∧ ρ 18 = .int .i64 1 ∧ ρ 19 = .int .i64 i ∧ B = A * Sl 1 u (xs.length + i) (bys (xs ++ le i v))) (m := 1) ?_ ?_
  · exact ⟨0, _, by omega, rfl, rfl, by show Value.int .u64 ((v : Nat) : Int) = _; simp, rfl, rfl, by simp [le]; rfl⟩
  · intro k ρ B hI
    obtain ⟨i, u, hi, rfl, h5, h6, h17, h18, rfl⟩ := hI
    refine tc_env (d := 5) h5 ?_
    refine tc_env (d := 6) h6 ?_
    refine tc_env (d := 18) h17 ?_
    refine tc_env (d := 19) h18 ?_
    refine tc_seq ?_
    refine tc_reg ?_
    refine tl_v rfl (o_lss rfl rfl) ?_
    refine tl_nil ?_
    refine q_then_n ?_
    refine tc_seq ?_
    refine tc_cond rfl (fun h => ?_) (fun h => ?_)
    · try simp only [decide_eq_true_eq, decide_eq_false_iff_not, Bool.not_eq_true', Bool.not_eq_false', Option.isNone_some, Option.isNone_none, Bool.not_true, Bool.not_false] at h
      refine tc_skip ?_
      refine q_then_n ?_
      refine tc_seq ?_
      refine tc_block ?_
      refine tc_seq ?_
      refine tc_reg ?_
      refine tl_v rfl (o_move rfl) ?_
      refine tl_v rfl (o_move rfl) ?_
      refine tl_v rfl (by first | exact o_conv8 Try.underlying53 Try.underlying5 rfl | exact o_conv Try.underlying53 Try.underlying5 rfl) ?_
      refine tl_x rfl (o_buildSlice1 Try.underlying28 sz5 z5 rfl rfl) ?_
      rintro _ _ ⟨b24, rfl, rfl⟩
      refine tl_x rfl (o_append1 Try.underlying28 Try.underlying28 sz5 by5 z5 rfl (by decide) (by decide) rfl rfl rfl rfl rfl (by omega)) ?_
      rintro u25 _ rfl
      refine tl_v rfl (o_assign rfl) ?_
      refine tl_nil ?_
      refine q_then_n ?_
      refine tc_reg ?_
      refine tl_v rfl (o_move rfl) ?_
      refine tl_v rfl (by first | exact o_shrN (b := 8) rfl rfl rfl (by decide) | exact o_shr rfl rfl (by omega)) ?_
      refine tl_v rfl (o_assign rfl) ?_
      refine tl_nil ?_
      refine q_block_n (q_then_n ?_)
      refine tc_reg ?_
      refine tl_v rfl (by first | exact o_addI rfl rfl (by omega) | exact o_add rfl rfl) ?_
      refine tl_v rfl (o_move rfl) ?_
      refine tl_nil ?_
      refine q_then_n ?_
      exact ⟨_, by omega, i + 1, u25, by omega, rfl, rfl, congrArg (fun x : Nat => Value.int .u64 (x : Int)) (le_div v i), rfl, rfl, by rw [← put_eq]; rfl⟩
    · try simp only [decide_eq_true_eq, decide_eq_false_iff_not, Bool.not_eq_true', Bool.not_eq_false', Option.isNone_some, Option.isNone_none, Bool.not_true, Bool.not_false] at h
      refine tc_exit ?_
      refine q_then_e (q_then_e (q_block_x (q_then_n ?_)))
      refine tc_seq ?_
      refine tc_reg ?_
      refine tl_v rfl (o_move rfl) ?_
      refine tl_v rfl (o_assign rfl) ?_
      refine tl_nil ?_
      refine q_then_n ?_
      refine tc_ret ?_
      obtain rfl : i = 1 := by omega
      exact ⟨u, res1 rfl rfl, u, rfl, rfl⟩

theorem Put16_f (A : SP) (a : Option Addr) (c : Nat) (xs : List Nat) (v : Nat) (hr : Rd A a (bys xs)) (hv : v < 65536) (hl : xs.length ≤ 1099511627776) :
    Fn Try.prog 142 #[.slice a xs.length c, .int .u16 (v : Nat)] (A) (fun r B => ∃ u, r = u ∧ B = A * Sl 1 u (xs.length + 2) (bys (xs ++ le 2 v))) := by
  refine fn_enter (args := [.slice a xs.length c, .int .u16 (v : Nat)]) Try.func142 rfl Try.ntmps142 (by simp) ?_
  refine tc_seq ?_
  refine tc_reg ?_
  refine tl_v rfl (o_assign rfl) ?_
  refine tl_nil ?_
  refine q_then_n ?_
  refine tc_seq ?_
  refine tc_reg ?_
  refine tl_v rfl (o_move rfl) ?_
  refine tl_v rfl (o_len Try.underlying28 rfl) ?_
  refine tl_v rfl (o_move rfl) ?_
  refine tl_v rfl (o_len Try.underlying28 rfl) ?_
  refine tl_v rfl (by first | exact o_addI rfl rfl (by omega) | exact o_add rfl rfl) ?_
  refine tl_x rfl (o_makeSlice (len := xs.length) (cap := xs.length + 8) Try.underlying28 sz5 by5 z5 rfl rfl rfl (by omega) (by omega) (by omega)) ?_
  rintro _ _ ⟨b12, rfl, rfl⟩
  refine tl_v rfl (o_assign rfl) ?_
  refine tl_nil ?_
  refine q_then_n ?_
  refine tc_seq ?_
  refine tc_reg ?_
  refine tl_v rfl (o_move rfl) ?_
  refine tl_v rfl (o_move rfl) ?_
  refine tl_x rfl (o_copy (xs := bys xs) (m := xs.length) Try.underlying28 sz5 rfl rfl hr.left (bys_length xs) (Nat.min_self _) bys_oneC (by simp) rfl upd_here) ?_
  rintro _ _ ⟨rfl, rfl⟩
  refine tl_pre (fun _ _ h => sl_new (k := 1) (n := xs.length) (cap := xs.length + 8) h (by omega) (by simp [splice_length]) (copy_eq xs 8 _)) ?_
  refine tl_nil ?_
  refine q_then_n ?_
  refine tc_seq ?_
  refine tc_reg ?_
  refine tl_v rfl (o_move rfl) ?_
  refine tl_v rfl (o_convI Try.underlying167 Try.underlying53 rfl (wrap_fit .u64 rfl v (by show v < 2 ^ 64; omega))) ?_
  refine tl_v rfl (o_assign rfl) ?_
  refine tl_nil ?_
  refine q_then_n ?_
  refine tc_seq ?_
  refine tc_seq ?_
  refine tc_reg ?_
  refine tl_c rfl (o_call bd151 rfl (size16_f _)) ?_
  rintro _ _ ⟨rfl, rfl⟩
  refine tl_v rfl (o_move rfl) ?_
  refine tl_nil ?_
  refine q_then_n ?_
  refine tc_block ?_
  refine tc_loop (fun k ρ B => ∃ (i : Nat) (u : Value), i ≤ 2 ∧ k = 2 - i ∧ ρ 5 = u ∧ ρ 6 = .int .u64 ((v / 256 ^ i : Nat) : Int) ∧ ρ 18 = .int .i64 2 ∧ ρ 19 = .int .i64 i ∧ B = A * Sl 1 u (xs.length + i) (bys (xs ++ le i v))) (m := 2) ?_ ?_
  · exact ⟨0, _, by omega, rfl, rfl, by show Value.int .u64 ((v : Nat) : Int) = _; simp, rfl, rfl, by simp [le]; rfl⟩
  · intro k ρ B hI
    obtain ⟨i, u, hi, rfl, h5, h6, h17, h18, rfl⟩ := hI
    refine tc_env (d := 5) h5 ?_
    refine tc_env (d := 6) h6 ?_
    refine tc_env (d := 18) h17 ?_
    refine tc_env (d := 19) h18 ?_
    refine tc_seq ?_
    refine tc_reg ?_
    refine tl_v rfl (o_lss rfl rfl) ?_
    refine tl_nil ?_
    refine q_then_n ?_
    refine tc_seq ?_
    refine tc_cond rfl (fun h => ?_) (fun h => ?_)
    · try simp only [decide_eq_true_eq, decide_eq_false_iff_not, Bool.not_eq_true', Bool.not_eq_false', Option.isNone_some, Option.isNone_none, Bool.not_true, Bool.not_false] at h
      refine tc_skip ?_
      refine q_then_n ?_
      refine tc_seq ?_
      refine tc_block ?_
      refine tc_seq ?_
      refine tc_reg ?_
      refine tl_v rfl (o_move rfl) ?_
      refine tl_v rfl (o_move rfl) ?_
      refine tl_v rfl (by first | exact o_conv8 Try.underlying53 Try.underlying5 rfl | exact o_conv Try.underlying53 Try.underlying5 rfl) ?_
      refine tl_x rfl (o_buildSlice1 Try.underlying28 sz5 z5 rfl rfl) ?_
      rintro _ _ ⟨b24, rfl, rfl⟩
      refine tl_x rfl (o_append1 Try.underlying28 Try.underlying28 sz5 by5 z5 rfl (by decide) (by decide) rfl rfl rfl rfl rfl (by omega)) ?_
      rintro u25 _ rfl
      refine tl_v rfl (o_assign rfl) ?_
      refine tl_nil ?_
      refine q_then_n ?_
      refine tc_reg ?_
      refine tl_v rfl (o_move rfl) ?_
      refine tl_v rfl (by first | exact o_shrN (b := 8) rfl rfl rfl (by decide) | exact o_shr rfl rfl (by omega)) ?_
      refine tl_v rfl (o_assign rfl) ?_
      refine tl_nil ?_
      refine q_block_n (q_then_n ?_)
      refine tc_reg ?_
      refine tl_v rfl (by first | exact o_addI rfl rfl (by omega) | exact o_add rfl rfl) ?_
      refine tl_v rfl (o_move rfl) ?_
      refine tl_nil ?_
      refine q_then_n ?_
      exact ⟨_, by omega, i + 1, u25, by omega, rfl, rfl, congrArg (fun x : Nat => Value.int .u64 (x : Int)) (le_div v i), rfl, rfl, by rw [← put_eq]; rfl⟩
    · try simp only [decide_eq_true_eq, decide_eq_false_iff_not, Bool.not_eq_true', Bool.not_eq_false', Option.isNone_some, Option.isNone_none, Bool.not_true, Bool.not_false] at h
      refine tc_exit ?_
      refine q_then_e (q_then_e (q_block_x (q_then_n ?_)))
      refine tc_seq ?_
      refine tc_reg ?_
      refine tl_v rfl (o_move rfl) ?_
      refine tl_v rfl (o_assign rfl) ?_
      refine tl_nil ?_
      refine q_then_n ?_
      refine tc_ret ?_
      obtain rfl : i = 2 := by omega
      exact ⟨u, res1 rfl rfl, u, rfl, rfl⟩

theorem Put32_f (A : SP) (a : Option Addr) (c : Nat) (xs : List Nat) (v : Nat) (hr : Rd A a (bys xs)) (hv : v < 4294967296) (hl : xs.length ≤ 1099511627776) :
    Fn Try.prog 123 #[.slice a xs.length c, .int .u32 (v : Nat)] (A) (fun r B => ∃ u, r = u ∧ B = A * Sl 1 u (xs.length + 4) (bys (xs ++ le 4 v))) := by
  refine fn_enter (args := [.slice a xs.length c, .int .u32 (v : Nat)]) Try.func123 rfl Try.ntmps123 (by simp) ?_
  refine tc_seq ?_
  refine tc_reg ?_
  refine tl_v rfl (o_assign rfl) ?_
  refine tl_nil ?_
  refine q_then_n ?_
  refine tc_seq ?_
  refine tc_reg ?_
  refine tl_v rfl (o_move rfl) ?_
  refine tl_v rfl (o_len Try.underlying28 rfl) ?_
  refine tl_v rfl (o_move rfl) ?_
  refine tl_v rfl (o_len Try.underlying28 rfl) ?_
  refine tl_v rfl (by first | exact o_addI rfl rfl (by omega) | exact o_add rfl rfl) ?_
  refine tl_x rfl (o_makeSlice (len := xs.length) (cap := xs.length + 8) Try.underlying28 sz5 by5 z5 rfl rfl rfl (by omega) (by omega) (by omega)) ?_
  rintro _ _ ⟨b12, rfl, rfl⟩
  refine tl_v rfl (o_assign rfl) ?_
  refine tl_nil ?_
  refine q_then_n ?_
  refine tc_seq ?_
  refine tc_reg ?_
  refine tl_v rfl (o_move rfl) ?_
  refine tl_v rfl (o_move rfl) ?_
  refine tl_x rfl (o_copy (xs := bys xs) (m := xs.length) Try.underlying28 sz5 rfl rfl hr.left (bys_length xs) (Nat.min_self _) bys_oneC (by simp) rfl upd_here) ?_
  rintro _ _ ⟨rfl, rfl⟩
  refine tl_pre (fun _ _ h => sl_new (k := 1) (n := xs.length) (cap := xs.length + 8) h (by omega) (by simp [splice_length]) (copy_eq xs 8 _)) ?_
  refine tl_nil ?_
  refine q_then_n ?_
  refine tc_seq ?_
  refine tc_reg ?_
  refine tl_v rfl (o_move rfl) ?_
  refine tl_v rfl (o_convI Try.underlying114 Try.underlying53 rfl (wrap_fit .u64 rfl v (by show v < 2 ^ 64; omega))) ?_
  refine tl_v rfl (o_assign rfl) ?_
  refine tl_nil ?_
  refine q_then_n ?_
  refine tc_seq ?_
  refine tc_seq ?_
  refine tc_reg ?_
  refine tl_c rfl (o_call bd146 rfl (size32_f _)) ?_
  rintro _ _ ⟨rfl, rfl⟩
  refine tl_v rfl (o_move rfl) ?_
  refine tl_nil ?_
  refine q_then_n ?_
  refine tc_block ?_
  refine tc_loop (fun k ρ B => ∃ (i : Nat) (u : Value), i ≤ 4 ∧ k = 4 - i ∧ ρ 5 = u ∧ ρ 6 = .int .u64 ((v / 256 ^ i : Nat) : Int) ∧ ρ 18 = .int .i64 4 ∧ ρ 19 = .int .i64 i ∧ B = A * Sl 1 u (xs.length + i) (bys (xs ++ le i v))) (m := 4) ?_ ?_
  · exact ⟨0, _, by omega, rfl, rfl, by show Value.int .u64 ((v : Nat) : Int) = _; simp, rfl, rfl, by simp [le]; rfl⟩
  · intro k ρ B hI
    obtain ⟨i, u, hi, rfl, h5, h6, h17, h18, rfl⟩ := hI
    refine tc_env (d := 5) h5 ?_
    refine tc_env (d := 6) h6 ?_
    refine tc_env (d := 18) h17 ?_
    refine tc_env (d := 19) h18 ?_
    refine tc_seq ?_
    refine tc_reg ?_
    refine tl_v rfl (o_lss rfl rfl) ?_
    refine tl_nil ?_
    refine q_then_n ?_
    refine tc_seq ?_
    refine tc_cond rfl (fun h => ?_) (fun h => ?_)
    · try simp only [decide_eq_true_eq, decide_eq_false_iff_not, Bool.not_eq_true', Bool.not_eq_false', Option.isNone_some, Option.isNone_none, Bool.not_true, Bool.not_false] at h
      refine tc_skip ?_
      refine q_then_n ?_
      refine tc_seq ?_
      refine tc_block ?_
      refine tc_seq ?_
      refine tc_reg ?_
      refine tl_v rfl (o_move rfl) ?_
      refine tl_v rfl (o_move rfl) ?_
      refine tl_v rfl (by first | exact o_conv8 Try.underlying53 Try.underlying5 rfl | exact o_conv Try.underlying53 Try.underlying5 rfl) ?_
      refine tl_x rfl (o_buildSlice1 Try.underlying28 sz5 z5 rfl rfl) ?_
      rintro _ _ ⟨b24, rfl, rfl⟩
      refine tl_x rfl (o_append1 Try.underlying28 Try.underlying28 sz5 by5 z5 rfl (by decide) (by decide) rfl rfl rfl rfl rfl (by omega)) ?_
      rintro u25 _ rfl
      refine tl_v rfl (o_assign rfl) ?_
      refine tl_nil ?_
      refine q_then_n ?_
      refine tc_reg ?_
      refine tl_v rfl (o_move rfl) ?_
      refine tl_v rfl (by first | exact o_shrN (b := 8) rfl rfl rfl (by decide) | exact o_shr rfl rfl (by omega)) ?_
      refine tl_v rfl (o_assign rfl) ?_
      refine tl_nil ?_
      refine q_block_n (q_then_n ?_)
      refine tc_reg ?_
      refine tl_v rfl (by first | exact o_addI rfl rfl (by omega) | exact o_add rfl rfl) ?_
      refine tl_v rfl (o_move rfl) ?_
      refine tl_nil ?_
      refine q_then_n ?_
      exact ⟨_, by omega, i + 1, u25, by omega, rfl, rfl, congrArg (fun x : Nat => Value.int .u64 (x : Int)) (le_div v i), rfl, rfl, by rw [← put_eq]; rfl⟩
    · try simp only [decide_eq_true_eq, decide_eq_false_iff_not, Bool.not_eq_true', Bool.not_eq_false', Option.isNone_some, Option.isNone_none, Bool.not_true, Bool.not_false] at h
      refine tc_exit ?_
      refine q_then_e (q_then_e (q_block_x (q_then_n ?_)))
      refine tc_seq ?_
      refine tc_reg ?_
      refine tl_v rfl (o_move rfl) ?_
      refine tl_v rfl (o_assign rfl) ?_
      refine tl_nil ?_
      refine q_then_n ?_
      refine tc_ret ?_
      obtain rfl : i = 4 := by omega
      exact ⟨u, res1 rfl rfl, u, rfl, rfl⟩

theorem Put64_f (A : SP) (a : Option Addr) (c : Nat) (xs : List Nat) (v : Nat) (hr : Rd A a (bys xs)) (hv : v < 18446744073709551616) (hl : xs.length ≤ 1099511627776) :
    Fn Try.prog 99 #[.slice a xs.length c, .int .u64 (v : Nat)] (A) (fun r B => ∃ u, r = u ∧ B = A * Sl 1 u (xs.length + 8) (bys (xs ++ le 8 v))) := by
  refine fn_enter (args := [.slice a xs.length c, .int .u64 (v : Nat)]) Try.func99 rfl Try.ntmps99 (by simp) ?_
  refine tc_seq ?_
  refine tc_reg ?_
  refine tl_v rfl (o_assign rfl) ?_
  refine tl_nil ?_
  refine q_then_n ?_
  refine tc_seq ?_
  refine tc_reg ?_
  refine tl_v rfl (o_move rfl) ?_
  refine tl_v rfl (o_len Try.underlying28 rfl) ?_
  refine tl_v rfl (o_move rfl) ?_
  refine tl_v rfl (o_len Try.underlying28 rfl) ?_
  refine tl_v rfl (by first | exact o_addI rfl rfl (by omega) | exact o_add rfl rfl) ?_
  refine tl_x rfl (o_makeSlice (len := xs.length) (cap := xs.length + 8) Try.underlying28 sz5 by5 z5 rfl rfl rfl (by omega) (by omega) (by omega)) ?_
  rintro _ _ ⟨b12, rfl, rfl⟩
  refine tl_v rfl (o_assign rfl) ?_
  refine tl_nil ?_
  refine q_then_n ?_
  refine tc_seq ?_
  refine tc_reg ?_
  refine tl_v rfl (o_move rfl) ?_
  refine tl_v rfl (o_move rfl) ?_
  refine tl_x rfl (o_copy (xs := bys xs) (m := xs.length) Try.underlying28 sz5 rfl rfl hr.left (bys_length xs) (Nat.min_self _) bys_oneC (by simp) rfl upd_here) ?_
  rintro _ _ ⟨rfl, rfl⟩
  refine tl_pre (fun _ _ h => sl_new (k := 1) (n := xs.length) (cap := xs.length + 8) h (by omega) (by simp [splice_length]) (copy_eq xs 8 _)) ?_
  refine tl_nil ?_
  refine q_then_n ?_
  refine tc_seq ?_
  refine tc_reg ?_
  refine tl_v rfl (o_move rfl) ?_
  refine tl_v rfl (o_assign rfl) ?_
  refine tl_nil ?_
  refine q_then_n ?_
  refine tc_seq ?_
  refine tc_seq ?_
  refine tc_reg ?_
  refine tl_c rfl (o_call bd135 rfl (size64_f _)) ?_
  rintro _ _ ⟨rfl, rfl⟩
  refine tl_v rfl (o_move rfl) ?_
  refine tl_nil ?_
  refine q_then_n ?_
  refine tc_block ?_
  refine tc_loop (fun k ρ B => ∃ (i : Nat) (u : Value), i ≤ 8 ∧ k = 8 - i ∧ ρ 5 = u ∧ ρ 6 = .int .u64 ((v / 256 ^ i : Nat) : Int) ∧ ρ 17 = .int .i64 8 ∧ ρ 18 = .int .i64 i ∧ B = A * Sl 1 u (xs.length + i) (bys (xs ++ le i v))) (m := 8) ?_ ?_
  · exact ⟨0, _, by omega, rfl, rfl, by show Value.int .u64 ((v : Nat) : Int) = _; simp, rfl, rfl, by simp [le]; rfl⟩
  · intro k ρ B hI
    obtain ⟨i, u, hi, rfl, h5, h6, h17, h18, rfl⟩ := hI
    refine tc_env (d := 5) h5 ?_
    refine tc_env (d := 6) h6 ?_
    refine tc_env (d := 17) h17 ?_
    refine tc_env (d := 18) h18 ?_
    refine tc_seq ?_
    refine tc_reg ?_
    refine tl_v rfl (o_lss rfl rfl) ?_
    refine tl_nil ?_
    refine q_then_n ?_
    refine tc_seq ?_
    refine tc_cond rfl (fun h => ?_) (fun h => ?_)
    · try simp only [decide_eq_true_eq, decide_eq_false_iff_not, Bool.not_eq_true', Bool.not_eq_false', Option.isNone_some, Option.isNone_none, Bool.not_true, Bool.not_false] at h
      refine tc_skip ?_
      refine q_then_n ?_
      refine tc_seq ?_
      refine tc_block ?_
      refine tc_seq ?_
      refine tc_reg ?_
      refine tl_v rfl (o_move rfl) ?_
      refine tl_v rfl (o_move rfl) ?_
      refine tl_v rfl (by first | exact o_conv8 Try.underlying53 Try.underlying5 rfl | exact o_conv Try.underlying53 Try.underlying5 rfl) ?_
      refine tl_x rfl (o_buildSlice1 Try.underlying28 sz5 z5 rfl rfl) ?_
      rintro _ _ ⟨b23, rfl, rfl⟩
      refine tl_x rfl (o_append1 Try.underlying28 Try.underlying28 sz5 by5 z5 rfl (by decide) (by decide) rfl rfl rfl rfl rfl (by omega)) ?_
      rintro u24 _ rfl
      refine tl_v rfl (o_assign rfl) ?_
      refine tl_nil ?_
      refine q_then_n ?_
      refine tc_reg ?_
      refine tl_v rfl (o_move rfl) ?_
      refine tl_v rfl (by first | exact o_shrN (b := 8) rfl rfl rfl (by decide) | exact o_shr rfl rfl (by omega)) ?_
      refine tl_v rfl (o_assign rfl) ?_
      refine tl_nil ?_
      refine q_block_n (q_then_n ?_)
      refine tc_reg ?_
      refine tl_v rfl (by first | exact o_addI rfl rfl (by omega) | exact o_add rfl rfl) ?_
      refine tl_v rfl (o_move rfl) ?_
      refine tl_nil ?_
      refine q_then_n ?_
      exact ⟨_, by omega, i + 1, u24, by omega, rfl, rfl, congrArg (fun x : Nat => Value.int .u64 (x : Int)) (le_div v i), rfl, rfl, by rw [← put_eq]; rfl⟩
    · try simp only [decide_eq_true_eq, decide_eq_false_iff_not, Bool.not_eq_true', Bool.not_eq_false', Option.isNone_some, Option.isNone_none, Bool.not_true, Bool.not_false] at h
      refine tc_exit ?_
      refine q_then_e (q_then_e (q_block_x (q_then_n ?_)))
      refine tc_seq ?_
      refine tc_reg ?_
      refine tl_v rfl (o_move rfl) ?_
      refine tl_v rfl (o_assign rfl) ?_
      refine tl_nil ?_
      refine q_then_n ?_
      refine tc_ret ?_
      obtain rfl : i = 8 := by omega
      exact ⟨u, res1 rfl rfl, u, rfl, rfl⟩


/-- The number of bytes, the lowest first. -/
def nm : List Nat → Nat
  | [] => 0
  | x :: l => x + 256 * nm l
theorem nm_lt : ∀ (l : List Nat), (∀ x ∈ l, x < 256) → nm l < 256 ^ l.length
  | [], _ => by simp [nm]
  | x :: l, h => by
    have h1 := nm_lt l fun y hy => h y (by simp [hy])
    have h2 := h x (by simp)
    simp only [nm, List.length_cons, Nat.pow_succ]
    omega
theorem nm_step {xs : List Nat} {at_ j s : Nat} (h : at_ + j < xs.length) (hj : j < s) (hx : xs[at_ + j] < 256) :
    nm ((xs.drop (at_ + (j + 1))).take (s - (j + 1))) * 2 ^ 8 ||| xs[at_ + j] = nm ((xs.drop (at_ + j)).take (s - j)) := by
  have e1 : xs.drop (at_ + j) = xs[at_ + j] :: xs.drop (at_ + (j + 1)) := by rw [List.drop_eq_getElem_cons h]; rfl
  have e2 : s - j = (s - (j + 1)) + 1 := by omega
  rw [e1, e2, List.take_succ_cons, nm]
  have := Nat.two_pow_add_eq_or_of_lt (i := 8) (b := xs[at_ + j]) hx (nm ((xs.drop (at_ + (j + 1))).take (s - (j + 1))))
  rw [Nat.mul_comm _ (2 ^ 8), ← this]; omega
theorem nm_le : ∀ (n v : Nat), nm (le n v) = v % 256 ^ n
  | 0, v => by simp [nm, le, Nat.mod_one]
  | n + 1, v => by
    rw [le, nm, nm_le n, Nat.pow_succ, Nat.mul_comm (256 ^ n) 256, Nat.mod_mul]
theorem le_nm : ∀ (l : List Nat), (∀ x ∈ l, x < 256) → le l.length (nm l) = l
  | [], _ => rfl
  | x :: l, h => by
    have h2 := h x (by simp)
    have e1 : (x + 256 * nm l) % 256 = x := by omega
    have e2 : (x + 256 * nm l) / 256 = nm l := by omega
    rw [List.length_cons, nm, le, e1, e2, le_nm l fun y hy => h y (by simp [hy])]
theorem le_bytes : ∀ (n v : Nat), ∀ x ∈ le n v, x < 256
  | 0, _, x, h => by simp [le] at h
  | n + 1, v, x, h => by
    simp only [le, List.mem_cons] at h
    rcases h with rfl | h
    · omega
    · exact le_bytes n _ x h

theorem Take8_f (A : SP) (a : Option Addr) (c : Nat) (xs : List Nat) (p : Nat) (hb : ∀ x ∈ xs, x < 256) (hr : Rd A a (bys xs)) (hp : p + 1 ≤ xs.length) (hl : xs.length ≤ 1099511627776) :
    Fn Try.prog 122 #[.slice a xs.length c, .int .i64 (p : Nat)] (A) (fun r B => r = .tuple #[.int .u8 ((nm ((xs.drop p).take 1) : Nat) : Int), .int .i64 0] ∧ A = B) := by
  refine fn_enter (args := [.slice a xs.length c, .int .i64 (p : Nat)]) Try.func122 rfl Try.ntmps122 (by simp) ?_
  refine tc_seq ?_
  refine tc_reg ?_
  refine tl_v rfl (o_assign rfl) ?_
  refine tl_v rfl (o_assign rfl) ?_
  refine tl_nil ?_
  refine q_then_n ?_
  refine tc_seq ?_
  refine tc_reg ?_
  refine tl_c rfl (o_call bd145 rfl (size8_f _)) ?_
  rintro _ _ ⟨rfl, rfl⟩
  refine tl_v rfl (o_assign rfl) ?_
  refine tl_nil ?_
  refine q_then_n ?_
  refine tc_seq ?_
  refine tc_seq ?_
  refine tc_reg ?_
  refine tl_v rfl (o_move rfl) ?_
  refine tl_v rfl (o_lss rfl rfl) ?_
  refine tl_v rfl (o_move rfl) ?_
  refine tl_bool (d := 12) rfl (fun h => ?_) (fun h => ?_)
  · (exfalso; first | (revert h; simp; done) | (revert h; simp; omega) | (simp at h; omega) | omega)
  · try simp only [decide_eq_true_eq, decide_eq_false_iff_not, Bool.not_eq_true', Bool.not_eq_false', Option.isNone_some, Option.isNone_none, Bool.not_true, Bool.not_false] at h
    refine tl_v rfl (o_move rfl) ?_
    refine tl_v rfl (o_move rfl) ?_
    refine tl_v rfl (o_len Try.underlying28 rfl) ?_
    refine tl_v rfl (o_move rfl) ?_
    refine tl_v rfl (by first | exact o_subI rfl rfl (by omega) | exact o_sub rfl rfl) ?_
    refine tl_v rfl (o_gtr rfl rfl) ?_
    refine tl_v rfl (by first | exact o_pick_t rfl rfl | exact o_pick_f rfl rfl | exact o_pick rfl rfl) ?_
    refine tl_nil ?_
    refine q_then_n ?_
    refine tc_cond rfl (fun h => ?_) (fun h => ?_)
    · (exfalso; first | (revert h; simp; done) | (revert h; simp; omega) | (simp at h; omega) | omega)
    · try simp only [decide_eq_true_eq, decide_eq_false_iff_not, Bool.not_eq_true', Bool.not_eq_false', Option.isNone_some, Option.isNone_none, Bool.not_true, Bool.not_false] at h
      refine tc_skip ?_
      refine q_then_n ?_
      refine tc_seq ?_
      refine tc_reg ?_
      refine tl_v rfl (o_assign rfl) ?_
      refine tl_nil ?_
      refine q_then_n ?_
      refine tc_seq ?_
      refine tc_seq ?_
      refine tc_reg ?_
      refine tl_v rfl (o_move rfl) ?_
      refine tl_v rfl (by first | exact o_subI rfl rfl (by omega) | exact o_sub rfl rfl) ?_
      refine tl_v rfl (o_assign rfl) ?_
      refine tl_nil ?_
      refine q_then_n ?_
      refine tc_block ?_
      refine tc_loop (fun k ρ B => B = A ∧ ∃ i : Int, -1 ≤ i ∧ i < 1 ∧ k = (i + 1).toNat ∧ ρ 0 = .slice a xs.length c ∧ ρ 1 = .int .i64 (p : Nat) ∧ ρ 8 = .int .i64 i ∧ ρ 7 = .int .u64 ((nm ((xs.drop (p + (i + 1).toNat)).take (1 - (i + 1).toNat)) : Nat) : Int)) (m := 1) ?_ ?_
      · exact ⟨rfl, 0, by omega, by omega, rfl, rfl, rfl, rfl, by simp [nm]; rfl⟩
      · intro k ρ B hI
        obtain ⟨rfl, i, hi, hi2, rfl, h0, h1, h8, h7⟩ := hI
        refine tc_env (d := 0) h0 ?_
        refine tc_env (d := 1) h1 ?_
        refine tc_env (d := 8) h8 ?_
        refine tc_env (d := 7) h7 ?_
        refine tc_seq ?_
        refine tc_seq ?_
        refine tc_reg ?_
        refine tl_v rfl (o_move rfl) ?_
        refine tl_v rfl (o_geq rfl rfl) ?_
        refine tl_nil ?_
        refine q_then_n ?_
        refine tc_cond rfl (fun h => ?_) (fun h => ?_)
        · simp only [decide_eq_true_eq] at h
          obtain ⟨j, rfl⟩ := Int.eq_ofNat_of_zero_le h
          have hpj : p + j < xs.length := by omega
          have hb1 := hb _ (List.getElem_mem hpj)
          obtain ⟨b1, o1, rfl, hc1⟩ := hr.some (by rw [bys_length]; omega)
          have g1 := hc1 (p + j) _ (bys_at hpj)
          have hlt := nm_lt ((xs.drop (p + (j + 1))).take (1 - (j + 1))) (fun y hy => hb y (List.mem_of_mem_drop (List.mem_of_mem_take hy)))
          have hle : ((xs.drop (p + (j + 1))).take (1 - (j + 1))).length ≤ 7 := by rw [List.length_take]; omega
          have hpow := Nat.pow_le_pow_right (show 0 < 256 by decide) hle
          have hu : nm ((xs.drop (p + (j + 1))).take (1 - (j + 1))) * 2 ^ 8 < 18446744073709551616 := by
            have : (256 : Nat) ^ 7 = 72057594037927936 := by decide
            omega
          refine tc_skip ?_
          refine q_then_n ?_
          refine tc_seq ?_
          refine tc_block ?_
          refine tc_seq ?_
          refine tc_reg ?_
          refine tl_v rfl (o_move rfl) ?_
          refine tl_v rfl (o_shl64 (b := 8) rfl rfl rfl (by decide) hu) ?_
          refine tl_v rfl (o_assign rfl) ?_
          refine tl_nil ?_
          refine q_then_n ?_
          refine tc_reg ?_
          refine tl_v rfl (o_move rfl) ?_
          refine tl_v rfl (o_move rfl) ?_
          refine tl_v rfl (o_move rfl) ?_
          refine tl_v rfl (o_move rfl) ?_
          refine tl_v rfl (by first | exact o_addI rfl rfl (by omega) | exact o_add rfl rfl) ?_
          refine tl_v rfl (by first | exact o_indexAddrN1 Try.underlying28 sz5 rfl rfl (by omega) | exact o_indexAddr1 Try.underlying28 sz5 rfl rfl (by omega) (by omega)) ?_
          refine tl_v rfl (o_loadC p5 rfl g1) ?_
          refine tl_v rfl (o_convI Try.underlying5 Try.underlying53 rfl (wrap_fit .u64 rfl _ (by show _ < 2 ^ 64; omega))) ?_
          refine tl_v rfl (o_orN rfl rfl rfl hu (by show _ < 2 ^ 64; omega)) ?_
          refine tl_v rfl (o_assign rfl) ?_
          refine tl_nil ?_
          refine q_block_n (q_then_n ?_)
          refine tc_reg ?_
          refine tl_v rfl (o_move rfl) ?_
          refine tl_v rfl (by first | exact o_subI rfl rfl (by omega) | exact o_sub rfl rfl) ?_
          refine tl_v rfl (o_assign rfl) ?_
          refine tl_nil ?_
          refine q_then_n ?_
          exact ⟨(j : Int).toNat, by simp, rfl, (j : Int) - 1, by omega, by omega, by omega, rfl, rfl, rfl, congrArg (fun x : Nat => Value.int .u64 (x : Int)) ((nm_step (by omega) (by omega) (hb _ (List.getElem_mem _))).trans (by congr 3 <;> omega))⟩
        · try simp only [decide_eq_true_eq, decide_eq_false_iff_not, Bool.not_eq_true', Bool.not_eq_false', Option.isNone_some, Option.isNone_none, Bool.not_true, Bool.not_false] at h
          refine tc_exit ?_
          refine q_then_e (q_then_e (q_block_x (q_then_n ?_)))
          refine tc_seq ?_
          refine tc_reg ?_
          refine tl_v rfl (o_move rfl) ?_
          refine tl_v rfl (o_conv8 Try.underlying53 Try.underlying5 rfl) ?_
          refine tl_v rfl (o_assign rfl) ?_
          refine tl_v rfl (o_assign rfl) ?_
          refine tl_nil ?_
          refine q_then_n ?_
          refine tc_ret ?_
          obtain rfl : i = -1 := by omega
          have hlt := nm_lt ((xs.drop p).take 1) (fun y hy => hb y (List.mem_of_mem_drop (List.mem_of_mem_take hy)))
          have hle : ((xs.drop p).take 1).length = 1 := by rw [List.length_take, List.length_drop]; omega
          rw [hle] at hlt
          exact ⟨.tuple #[.int .u8 ((nm ((xs.drop p).take 1) % 256 : Nat) : Int), .int .i64 0], res2 rfl rfl rfl, by rw [Nat.mod_eq_of_lt (by simpa using hlt)], rfl⟩

theorem Take16_f (A : SP) (a : Option Addr) (c : Nat) (xs : List Nat) (p : Nat) (hb : ∀ x ∈ xs, x < 256) (hr : Rd A a (bys xs)) (hp : p + 2 ≤ xs.length) (hl : xs.length ≤ 1099511627776) :
    Fn Try.prog 143 #[.slice a xs.length c, .int .i64 (p : Nat)] (A) (fun r B => r = .tuple #[.int .u16 ((nm ((xs.drop p).take 2) : Nat) : Int), .int .i64 0] ∧ A = B) := by
  refine fn_enter (args := [.slice a xs.length c, .int .i64 (p : Nat)]) Try.func143 rfl Try.ntmps143 (by simp) ?_
  refine tc_seq ?_
  refine tc_reg ?_
  refine tl_v rfl (o_assign rfl) ?_
  refine tl_v rfl (o_assign rfl) ?_
  refine tl_nil ?_
  refine q_then_n ?_
  refine tc_seq ?_
  refine tc_reg ?_
  refine tl_c rfl (o_call bd151 rfl (size16_f _)) ?_
  rintro _ _ ⟨rfl, rfl⟩
  refine tl_v rfl (o_assign rfl) ?_
  refine tl_nil ?_
  refine q_then_n ?_
  refine tc_seq ?_
  refine tc_seq ?_
  refine tc_reg ?_
  refine tl_v rfl (o_move rfl) ?_
  refine tl_v rfl (o_lss rfl rfl) ?_
  refine tl_v rfl (o_move rfl) ?_
  refine tl_bool (d := 12) rfl (fun h => ?_) (fun h => ?_)
  · (exfalso; first | (revert h; simp; done) | (revert h; simp; omega) | (simp at h; omega) | omega)
  · try simp only [decide_eq_true_eq, decide_eq_false_iff_not, Bool.not_eq_true', Bool.not_eq_false', Option.isNone_some, Option.isNone_none, Bool.not_true, Bool.not_false] at h
    refine tl_v rfl (o_move rfl) ?_
    refine tl_v rfl (o_move rfl) ?_
    refine tl_v rfl (o_len Try.underlying28 rfl) ?_
    refine tl_v rfl (o_move rfl) ?_
    refine tl_v rfl (by first | exact o_subI rfl rfl (by omega) | exact o_sub rfl rfl) ?_
    refine tl_v rfl (o_gtr rfl rfl) ?_
    refine tl_v rfl (by first | exact o_pick_t rfl rfl | exact o_pick_f rfl rfl | exact o_pick rfl rfl) ?_
    refine tl_nil ?_
    refine q_then_n ?_
    refine tc_cond rfl (fun h => ?_) (fun h => ?_)
    · (exfalso; first | (revert h; simp; done) | (revert h; simp; omega) | (simp at h; omega) | omega)
    · try simp only [decide_eq_true_eq, decide_eq_false_iff_not, Bool.not_eq_true', Bool.not_eq_false', Option.isNone_some, Option.isNone_none, Bool.not_true, Bool.not_false] at h
      refine tc_skip ?_
      refine q_then_n ?_
      refine tc_seq ?_
      refine tc_reg ?_
      refine tl_v rfl (o_assign rfl) ?_
      refine tl_nil ?_
      refine q_then_n ?_
      refine tc_seq ?_
      refine tc_seq ?_
      refine tc_reg ?_
      refine tl_v rfl (o_move rfl) ?_
      refine tl_v rfl (by first | exact o_subI rfl rfl (by omega) | exact o_sub rfl rfl) ?_
      refine tl_v rfl (o_assign rfl) ?_
      refine tl_nil ?_
      refine q_then_n ?_
      refine tc_block ?_
      refine tc_loop (fun k ρ B => B = A ∧ ∃ i : Int, -1 ≤ i ∧ i < 2 ∧ k = (i + 1).toNat ∧ ρ 0 = .slice a xs.length c ∧ ρ 1 = .int .i64 (p : Nat) ∧ ρ 8 = .int .i64 i ∧ ρ 7 = .int .u64 ((nm ((xs.drop (p + (i + 1).toNat)).take (2 - (i + 1).toNat)) : Nat) : Int)) (m := 2) ?_ ?_
      · exact ⟨rfl, 1, by omega, by omega, rfl, rfl, rfl, rfl, by simp [nm]; rfl⟩
      · intro k ρ B hI
        obtain ⟨rfl, i, hi, hi2, rfl, h0, h1, h8, h7⟩ := hI
        refine tc_env (d := 0) h0 ?_
        refine tc_env (d := 1) h1 ?_
        refine tc_env (d := 8) h8 ?_
        refine tc_env (d := 7) h7 ?_
        refine tc_seq ?_
        refine tc_seq ?_
        refine tc_reg ?_
        refine tl_v rfl (o_move rfl) ?_
        refine tl_v rfl (o_geq rfl rfl) ?_
        refine tl_nil ?_
        refine q_then_n ?_
        refine tc_cond rfl (fun h => ?_) (fun h => ?_)
        · simp only [decide_eq_true_eq] at h
          obtain ⟨j, rfl⟩ := Int.eq_ofNat_of_zero_le h
          have hpj : p + j < xs.length := by omega
          have hb1 := hb _ (List.getElem_mem hpj)
          obtain ⟨b1, o1, rfl, hc1⟩ := hr.some (by rw [bys_length]; omega)
          have g1 := hc1 (p + j) _ (bys_at hpj)
          have hlt := nm_lt ((xs.drop (p + (j + 1))).take (2 - (j + 1))) (fun y hy => hb y (List.mem_of_mem_drop (List.mem_of_mem_take hy)))
          have hle : ((xs.drop (p + (j + 1))).take (2 - (j + 1))).length ≤ 7 := by rw [List.length_take]; omega
          have hpow := Nat.pow_le_pow_right (show 0 < 256 by decide) hle
          have hu : nm ((xs.drop (p + (j + 1))).take (2 - (j + 1))) * 2 ^ 8 < 18446744073709551616 := by
            have : (256 : Nat) ^ 7 = 72057594037927936 := by decide
            omega
          refine tc_skip ?_
          refine q_then_n ?_
          refine tc_seq ?_
          refine tc_block ?_
          refine tc_seq ?_
          refine tc_reg ?_
          refine tl_v rfl (o_move rfl) ?_
          refine tl_v rfl (o_shl64 (b := 8) rfl rfl rfl (by decide) hu) ?_
          refine tl_v rfl (o_assign rfl) ?_
          refine tl_nil ?_
          refine q_then_n ?_
          refine tc_reg ?_
          refine tl_v rfl (o_move rfl) ?_
          refine tl_v rfl (o_move rfl) ?_
          refine tl_v rfl (o_move rfl) ?_
          refine tl_v rfl (o_move rfl) ?_
          refine tl_v rfl (by first | exact o_addI rfl rfl (by omega) | exact o_add rfl rfl) ?_
          refine tl_v rfl (by first | exact o_indexAddrN1 Try.underlying28 sz5 rfl rfl (by omega) | exact o_indexAddr1 Try.underlying28 sz5 rfl rfl (by omega) (by omega)) ?_
          refine tl_v rfl (o_loadC p5 rfl g1) ?_
          refine tl_v rfl (o_convI Try.underlying5 Try.underlying53 rfl (wrap_fit .u64 rfl _ (by show _ < 2 ^ 64; omega))) ?_
          refine tl_v rfl (o_orN rfl rfl rfl hu (by show _ < 2 ^ 64; omega)) ?_
          refine tl_v rfl (o_assign rfl) ?_
          refine tl_nil ?_
          refine q_block_n (q_then_n ?_)
          refine tc_reg ?_
          refine tl_v rfl (o_move rfl) ?_
          refine tl_v rfl (by first | exact o_subI rfl rfl (by omega) | exact o_sub rfl rfl) ?_
          refine tl_v rfl (o_assign rfl) ?_
          refine tl_nil ?_
          refine q_then_n ?_
          exact ⟨(j : Int).toNat, by simp, rfl, (j : Int) - 1, by omega, by omega, by omega, rfl, rfl, rfl, congrArg (fun x : Nat => Value.int .u64 (x : Int)) ((nm_step (by omega) (by omega) (hb _ (List.getElem_mem _))).trans (by congr 3 <;> omega))⟩
        · try simp only [decide_eq_true_eq, decide_eq_false_iff_not, Bool.not_eq_true', Bool.not_eq_false', Option.isNone_some, Option.isNone_none, Bool.not_true, Bool.not_false] at h
          refine tc_exit ?_
          refine q_then_e (q_then_e (q_block_x (q_then_n ?_)))
          refine tc_seq ?_
          refine tc_reg ?_
          refine tl_v rfl (o_move rfl) ?_
          refine tl_v rfl (o_conv16 Try.underlying53 Try.underlying167 rfl) ?_
          refine tl_v rfl (o_assign rfl) ?_
          refine tl_v rfl (o_assign rfl) ?_
          refine tl_nil ?_
          refine q_then_n ?_
          refine tc_ret ?_
          obtain rfl : i = -1 := by omega
          have hlt := nm_lt ((xs.drop p).take 2) (fun y hy => hb y (List.mem_of_mem_drop (List.mem_of_mem_take hy)))
          have hle : ((xs.drop p).take 2).length = 2 := by rw [List.length_take, List.length_drop]; omega
          rw [hle] at hlt
          exact ⟨.tuple #[.int .u16 ((nm ((xs.drop p).take 2) % 65536 : Nat) : Int), .int .i64 0], res2 rfl rfl rfl, by rw [Nat.mod_eq_of_lt (by simpa using hlt)], rfl⟩

theorem Take64_f (A : SP) (a : Option Addr) (c : Nat) (xs : List Nat) (p : Nat) (hb : ∀ x ∈ xs, x < 256) (hr : Rd A a (bys xs)) (hp : p + 8 ≤ xs.length) (hl : xs.length ≤ 1099511627776) :
    Fn Try.prog 98 #[.slice a xs.length c, .int .i64 (p : Nat)] (A) (fun r B => r = .tuple #[.int .u64 ((nm ((xs.drop p).take 8) : Nat) : Int), .int .i64 0] ∧ A = B) := by
  refine fn_enter (args := [.slice a xs.length c, .int .i64 (p : Nat)]) Try.func98 rfl Try.ntmps98 (by simp) ?_
  refine tc_seq ?_
  refine tc_reg ?_
  refine tl_v rfl (o_assign rfl) ?_
  refine tl_v rfl (o_assign rfl) ?_
  refine tl_nil ?_
  refine q_then_n ?_
  refine tc_seq ?_
  refine tc_reg ?_
  refine tl_c rfl (o_call bd135 rfl (size64_f _)) ?_
  rintro _ _ ⟨rfl, rfl⟩
  refine tl_v rfl (o_assign rfl) ?_
  refine tl_nil ?_
  refine q_then_n ?_
  refine tc_seq ?_
  refine tc_seq ?_
  refine tc_reg ?_
  refine tl_v rfl (o_move rfl) ?_
  refine tl_v rfl (o_lss rfl rfl) ?_
  refine tl_v rfl (o_move rfl) ?_
  refine tl_bool (d := 12) rfl (fun h => ?_) (fun h => ?_)
  · (exfalso; first | (revert h; simp; done) | (revert h; simp; omega) | (simp at h; omega) | omega)
  · try simp only [decide_eq_true_eq, decide_eq_false_iff_not, Bool.not_eq_true', Bool.not_eq_false', Option.isNone_some, Option.isNone_none, Bool.not_true, Bool.not_false] at h
    refine tl_v rfl (o_move rfl) ?_
    refine tl_v rfl (o_move rfl) ?_
    refine tl_v rfl (o_len Try.underlying28 rfl) ?_
    refine tl_v rfl (o_move rfl) ?_
    refine tl_v rfl (by first | exact o_subI rfl rfl (by omega) | exact o_sub rfl rfl) ?_
    refine tl_v rfl (o_gtr rfl rfl) ?_
    refine tl_v rfl (by first | exact o_pick_t rfl rfl | exact o_pick_f rfl rfl | exact o_pick rfl rfl) ?_
    refine tl_nil ?_
    refine q_then_n ?_
    refine tc_cond rfl (fun h => ?_) (fun h => ?_)
    · (exfalso; first | (revert h; simp; done) | (revert h; simp; omega) | (simp at h; omega) | omega)
    · try simp only [decide_eq_true_eq, decide_eq_false_iff_not, Bool.not_eq_true', Bool.not_eq_false', Option.isNone_some, Option.isNone_none, Bool.not_true, Bool.not_false] at h
      refine tc_skip ?_
      refine q_then_n ?_
      refine tc_seq ?_
      refine tc_reg ?_
      refine tl_v rfl (o_assign rfl) ?_
      refine tl_nil ?_
      refine q_then_n ?_
      refine tc_seq ?_
      refine tc_seq ?_
      refine tc_reg ?_
      refine tl_v rfl (o_move rfl) ?_
      refine tl_v rfl (by first | exact o_subI rfl rfl (by omega) | exact o_sub rfl rfl) ?_
      refine tl_v rfl (o_assign rfl) ?_
      refine tl_nil ?_
      refine q_then_n ?_
      refine tc_block ?_
      refine tc_loop (fun k ρ B => B = A ∧ ∃ i : Int, -1 ≤ i ∧ i < 8 ∧ k = (i + 1).toNat ∧ ρ 0 = .slice a xs.length c ∧ ρ 1 = .int .i64 (p : Nat) ∧ ρ 8 = .int .i64 i ∧ ρ 7 = .int .u64 ((nm ((xs.drop (p + (i + 1).toNat)).take (8 - (i + 1).toNat)) : Nat) : Int)) (m := 8) ?_ ?_
      · exact ⟨rfl, 7, by omega, by omega, rfl, rfl, rfl, rfl, by simp [nm]; rfl⟩
      · intro k ρ B hI
        obtain ⟨rfl, i, hi, hi2, rfl, h0, h1, h8, h7⟩ := hI
        refine tc_env (d := 0) h0 ?_
        refine tc_env (d := 1) h1 ?_
        refine tc_env (d := 8) h8 ?_
        refine tc_env (d := 7) h7 ?_
        refine tc_seq ?_
        refine tc_seq ?_
        refine tc_reg ?_
        refine tl_v rfl (o_move rfl) ?_
        refine tl_v rfl (o_geq rfl rfl) ?_
        refine tl_nil ?_
        refine q_then_n ?_
        refine tc_cond rfl (fun h => ?_) (fun h => ?_)
        · simp only [decide_eq_true_eq] at h
          obtain ⟨j, rfl⟩ := Int.eq_ofNat_of_zero_le h
          have hpj : p + j < xs.length := by omega
          have hb1 := hb _ (List.getElem_mem hpj)
          obtain ⟨b1, o1, rfl, hc1⟩ := hr.some (by rw [bys_length]; omega)
          have g1 := hc1 (p + j) _ (bys_at hpj)
          have hlt := nm_lt ((xs.drop (p + (j + 1))).take (8 - (j + 1))) (fun y hy => hb y (List.mem_of_mem_drop (List.mem_of_mem_take hy)))
          have hle : ((xs.drop (p + (j + 1))).take (8 - (j + 1))).length ≤ 7 := by rw [List.length_take]; omega
          have hpow := Nat.pow_le_pow_right (show 0 < 256 by decide) hle
          have hu : nm ((xs.drop (p + (j + 1))).take (8 - (j + 1))) * 2 ^ 8 < 18446744073709551616 := by
            have : (256 : Nat) ^ 7 = 72057594037927936 := by decide
            omega
          refine tc_skip ?_
          refine q_then_n ?_
          refine tc_seq ?_
          refine tc_block ?_
          refine tc_seq ?_
          refine tc_reg ?_
          refine tl_v rfl (o_move rfl) ?_
          refine tl_v rfl (o_shl64 (b := 8) rfl rfl rfl (by decide) hu) ?_
          refine tl_v rfl (o_assign rfl) ?_
          refine tl_nil ?_
          refine q_then_n ?_
          refine tc_reg ?_
          refine tl_v rfl (o_move rfl) ?_
          refine tl_v rfl (o_move rfl) ?_
          refine tl_v rfl (o_move rfl) ?_
          refine tl_v rfl (o_move rfl) ?_
          refine tl_v rfl (by first | exact o_addI rfl rfl (by omega) | exact o_add rfl rfl) ?_
          refine tl_v rfl (by first | exact o_indexAddrN1 Try.underlying28 sz5 rfl rfl (by omega) | exact o_indexAddr1 Try.underlying28 sz5 rfl rfl (by omega) (by omega)) ?_
          refine tl_v rfl (o_loadC p5 rfl g1) ?_
          refine tl_v rfl (o_convI Try.underlying5 Try.underlying53 rfl (wrap_fit .u64 rfl _ (by show _ < 2 ^ 64; omega))) ?_
          refine tl_v rfl (o_orN rfl rfl rfl hu (by show _ < 2 ^ 64; omega)) ?_
          refine tl_v rfl (o_assign rfl) ?_
          refine tl_nil ?_
          refine q_block_n (q_then_n ?_)
          refine tc_reg ?_
          refine tl_v rfl (o_move rfl) ?_
          refine tl_v rfl (by first | exact o_subI rfl rfl (by omega) | exact o_sub rfl rfl) ?_
          refine tl_v rfl (o_assign rfl) ?_
          refine tl_nil ?_
          refine q_then_n ?_
          exact ⟨(j : Int).toNat, by simp, rfl, (j : Int) - 1, by omega, by omega, by omega, rfl, rfl, rfl, congrArg (fun x : Nat => Value.int .u64 (x : Int)) ((nm_step (by omega) (by omega) (hb _ (List.getElem_mem _))).trans (by congr 3 <;> omega))⟩
        · try simp only [decide_eq_true_eq, decide_eq_false_iff_not, Bool.not_eq_true', Bool.not_eq_false', Option.isNone_some, Option.isNone_none, Bool.not_true, Bool.not_false] at h
          refine tc_exit ?_
          refine q_then_e (q_then_e (q_block_x (q_then_n ?_)))
          refine tc_seq ?_
          refine tc_reg ?_
          refine tl_v rfl (o_move rfl) ?_
          refine tl_v rfl (o_assign rfl) ?_
          refine tl_v rfl (o_assign rfl) ?_
          refine tl_nil ?_
          refine q_then_n ?_
          refine tc_ret ?_
          obtain rfl : i = -1 := by omega
          exact ⟨.tuple #[.int .u64 ((nm ((xs.drop p).take 8) : Nat) : Int), .int .i64 0], res2 rfl rfl rfl, rfl, rfl⟩

end Go.Vl
