/- What the row rests on, part 3: a calculus of assertions, walks of functions over it, and plain laws. Conditions: none. -/
import Derived.Deep.QuietTactic
import Derived.BigQuiet
import Derived.WalkKit
import Derived.Test.YtimckjnnjakcoaaGreatProg
import Derived.OrdersHeld
import Derived.Laws.BytesArg
import Derived.RangeFuncRecord
import Derived.TacticsIn
import Derived.Deep.Slices
import Derived.OpenShut
import Derived.ChangeArms
import Derived.SizedLaws
import Derived.ChangeSame
import Derived.Test.YtimckjnnjakcoaaGreatRows
import Derived.Test.YtimckjnnjakcoaaGreatMg2
set_option linter.unusedVariables false
set_option linter.unusedSimpArgs false
namespace Go.Vl
open Go Go.Proofs
/-! ### Sums of parts -/
def crcs (ls : List (List Nat)) : Nat := ls.foldl crc 0
theorem crcs_take {ls : List (List Nat)} {i : Nat} (h : i < ls.length) : crcs (ls.take (i + 1)) = crc (crcs (ls.take i)) ls[i] := by
  unfold crcs; rw [List.take_succ_eq_append_getElem h, List.foldl_append]; rfl
theorem crcs_lt {ls : List (List Nat)} (hb : ∀ l ∈ ls, ∀ x ∈ l, x < 256) : crcs ls < 4294967296 := by
  unfold crcs
  have : ∀ (ls : List (List Nat)) (s : Nat), (∀ l ∈ ls, ∀ x ∈ l, x < 256) → s < 4294967296 → ls.foldl crc s < 4294967296 := by
    intro ls
    induction ls with
    | nil => intro s _ h; exact h
    | cons l ls ih => intro s hb h; exact ih _ (fun l hl => hb l (by simp [hl])) (crc_lt h (hb l (by simp)))
  exact this ls 0 hb (by decide)
attribute [local irreducible] crk crL crc Sl pt ro
theorem Sum_c {A : SP} {a : Option Addr} {m c : Nat} {ls : List (List Nat)} (hr : RdRows A a ls) (hm : ls.length = m := by first | assumption | rfl) (hb : ∀ l ∈ ls, ∀ x ∈ l, x < 256) (hl : ∀ l ∈ ls, l.length ≤ 1099511627776) (hm2 : m ≤ 1099511627776 := by omega) :
    Fn Tryz.prog 122 #[.slice a m c] (A) (fun r B => r = .int .u32 ((crcs ls : Nat) : Int) ∧ A = B) := by
  refine fn_enterW (args := [.slice a m c]) Tryz.func122 rfl Tryz.ntmps122 (by simp) ?_
  obtain ⟨vs, hvl, hra, hrows⟩ := hr
  have hra := rs_rd hra
  refine sr ?_; refine tla ?_; refine nq ?_; refine sr ?_; refine tla ?_; refine nq ?_; refine tc_seq ?_; refine sr ?_; refine tlm ?_; refine tv (o_len Tryz.underlying88 rfl) ?_; refine tlm ?_; refine nq ?_; refine tc_block ?_; refine tc_loop (fun kk ρ BB => ∃ (i : Nat), (i ≤ m) ∧ kk = m - i ∧ ρ 3 = .int .u32 ((crcs (ls.take i) : Nat) : Int) ∧ ρ 8 = .int .i64 (i : Nat) ∧ ρ 6 = .slice a m c ∧ ρ 7 = .int .i64 (m : Nat) ∧ BB = A) (m := m - (0)) ?_ ?_
  · exact ⟨0, by omega, rfl, rfl, rfl, rfl, rfl, rfl⟩
  · intro k ρ B hI
    obtain ⟨i, hp0, hkk1, hE3, hE8, hE6, hE7, hBA⟩ := hI
    obtain rfl := hBA.symm
    refine tc_env (d := 3) hE3 ?_; refine tc_env (d := 8) hE8 ?_; refine tc_env (d := 6) hE6 ?_; refine tc_env (d := 7) hE7 ?_
    clear hE3 hE8 hE6 hE7
    refine sr ?_; refine tv (o_lss rfl rfl) ?_; refine nq ?_; refine tc_seq ?_; refine tc_cond rfl (fun h => ?_) (fun h => ?_)
    · have hi : i < ls.length := by simp at h; omega
      obtain ⟨ai, ci, hvi, hri⟩ := hrows i hi
      have hri := rs_rd hri
      have hbi := hb _ (List.getElem_mem hi)
      have hli := hl _ (List.getElem_mem hi)
      have hs32 := crcs_lt (ls := ls.take i) fun l hl => hb l (List.mem_of_mem_take hl)
      refine tc_skip ?_; refine q_then_n ?_; refine tc_seq ?_; refine tc_block ?_; refine sr ?_; refine tv (o_ixP1 Tryz.underlying88 sz32 rfl rfl (by omega) (nn_rs hra (by omega))) ?_; refine tv (o_ldP p32 rfl hra hvi) ?_; refine tla ?_; refine nq ?_; refine tc_reg ?_; refine tlm ?_; refine tlm ?_; refine tl_c rfl (o_call bd133 rfl (More_c (hr := hri) (hb := hbi) (hl := hli) (hs := hs32))) ?_; rintro _ _ ⟨rfl, rfl⟩; refine tla ?_; refine tl_nil ?_; refine q_block_n (q_then_n ?_); refine tc_reg ?_; refine tv (by first | exact o_addI rfl rfl (by omega) | exact o_add rfl rfl) ?_; refine tlm ?_; refine nq ?_; exact ⟨_, by omega, i + 1, by omega, rfl, congrArg (fun z : Nat => Value.int .u32 (z : Int)) (crcs_take hi).symm, rfl, rfl, rfl, rfl⟩
    · try simp only [lv1, lv2, lv3, lv4, lv5, lv6, Bool.not_true, Bool.not_false] at h
      refine tc_exit ?_; refine q_then_e (q_then_e (q_block_x (q_then_n ?_))); refine sr ?_; refine tlm ?_; refine tla ?_; refine nq ?_; refine tc_ret ?_
      obtain rfl : i = m := by omega
      exact ⟨.int .u32 ((crcs ls : Nat) : Int), A, res1 rfl (congrArg (fun z : Nat => Value.int .u32 (z : Int)) (congrArg crcs (List.take_of_length_le (by omega)))), fun _ _ h => h, rfl, rfl⟩
theorem SumR_c {A : SP} {a : Option Addr} {m c : Nat} {xs : List Nat} (hr : Rs A a (bys xs) := by repeat (first | assumption | with_reducible exact rs_sl | with_reducible exact rs_pt0 | exact rs_none | apply Rs.left)) (hm : xs.length = m := by first | assumption | rfl) (hb : ∀ x ∈ xs, x < 256 := by assumption) (hl : m ≤ 1099511627776 := by omega) :
    Fn Tryz.prog 120 #[.slice a m c] (A) (fun r B => r = .int .u32 ((crc 0 xs : Nat) : Int) ∧ A = B) := by
  refine fn_enterW (args := [.slice a m c]) Tryz.func120 rfl Tryz.ntmps120 (by simp) ?_; refine sr ?_; refine tla ?_; refine nq ?_; refine sr ?_; refine tlm ?_; refine tl_c rfl (o_call bd132 rfl (MoreR_c (s := 0) (hr := hr))) ?_; rintro _ _ ⟨rfl, rfl⟩; refine tla ?_; refine nq ?_; refine tc_ret ?_; exact ⟨.int .u32 ((crc 0 xs : Nat) : Int), A, res1 rfl rfl, fun _ _ h => h, rfl, rfl⟩
theorem Little_c {A : SP} {v n : Nat} (hn : n ≤ 8 := by decide) :
    Fn Tryz.prog 95 #[.int .u64 (v : Nat), .int .i64 (n : Nat)] (A) (fun r B => ∃ a c, r = .slice a n c ∧ n ≤ c ∧ B = A * Sl 1 (.slice a n c) n (bys (le n v))) := by
  refine fn_enterW (args := [.int .u64 (v : Nat), .int .i64 (n : Nat)]) Tryz.func95 rfl Tryz.ntmps95 (by simp) ?_; refine sr ?_; refine tla ?_; refine nq ?_; refine sr ?_; refine tla ?_; refine nq ?_; refine tc_seq ?_; refine sr ?_; refine tla ?_; refine nq ?_; refine tc_block ?_; refine tc_pre (fun _ _ h => sl_nil (k := 1) h) ?_; refine tc_loop (fun kk ρ BB => ∃ (i : Nat) (a5 : Option Addr) (c5 : Nat), (i ≤ n) ∧ kk = n - i ∧ ρ 5 = .slice a5 i c5 ∧ ρ 6 = .int .i64 (i : Nat) ∧ ρ 0 = .int .u64 (v : Nat) ∧ ρ 1 = .int .i64 (n : Nat) ∧ BB = A * Sl 1 (.slice a5 i c5) i (bys (le i v))) (m := n - (0)) ?_ ?_
  · exact ⟨0, none, 0, by omega, rfl, rfl, rfl, rfl, rfl, rfl⟩
  · intro k ρ B hI
    obtain ⟨i, a5, c5, hp0, hkk1, hE5, hE6, hE0, hE1, rfl⟩ := hI
    refine tc_env (d := 5) hE5 ?_; refine tc_env (d := 6) hE6 ?_; refine tc_env (d := 0) hE0 ?_; refine tc_env (d := 1) hE1 ?_
    clear hE5 hE6 hE0 hE1
    refine tc_seq ?_; refine sr ?_; refine tlm ?_; refine tlm ?_; refine tv (o_lss rfl rfl) ?_; refine nq ?_; refine tc_cond rfl (fun h => ?_) (fun h => ?_)
    · try simp only [lv1, lv2, lv3, lv4, lv5, lv6, Bool.not_true, Bool.not_false] at h
      refine tc_skip ?_; refine q_then_n ?_; refine tc_seq ?_; refine tc_block ?_; refine tc_reg ?_; refine tlm ?_; refine tlm ?_; refine tlm ?_; refine tv (by first | exact o_mulI rfl rfl (by omega) | exact o_mul rfl rfl) ?_; refine tl_env (d := 15) (v := .int .i64 ((8 * i : Nat) : Int)) (rfl) ?_; refine tv (o_shrN (b := 8 * i) rfl rfl rfl (by show 8 * i ≤ 64; omega)) ?_; refine tv (by first | exact o_conv8 Tryz.underlying33 Tryz.underlying5 rfl | exact o_conv Tryz.underlying33 Tryz.underlying5 rfl) ?_; refine tl_env (d := 17) (v := .int .u8 ((v / 256 ^ i % 256 : Nat) : Int)) (congrArg (fun z : Nat => Value.int .u8 ((v / z % 256 : Nat) : Int)) (Nat.pow_mul 2 8 i)) ?_; refine tl_x rfl (o_buildSlice1 Tryz.underlying32 sz5 z5 (by conv => lhs; whnf) rfl) ?_; rintro _ _ ⟨b18, rfl, rfl⟩; refine tl_x rfl (o_apB Tryz.underlying32 Tryz.underlying32 sz5 by5 z5 rfl (by decide) (by decide) rfl rfl rfl (by repeat (first | with_reducible exact ct_here | apply ct_left)) rfl (by first | exact bys_all _ | exact ints_all _ | exact wds_all _ | exact bos_all _ | rfl) (by first | omega | (simp only [bys_length, ints_length, wds_length, bos_length, List.length_append, List.length_take, List.length_drop, List.length_singleton]; omega)) (by first | exact bys_sn _ _ | exact ints_sn _ _ | exact wds_sn _ _ | exact bos_sn _ _ | exact (bys_append _ _).symm | rfl)) ?_; rintro _ _ ⟨a19, c19, rfl, hc19, rfl⟩; refine tla ?_
      refine tl_nil ?_; refine q_block_n (q_then_n ?_); refine tc_reg ?_; refine tlm ?_; refine tv (by first | exact o_addI rfl rfl (by omega) | exact o_add rfl rfl) ?_; refine tla ?_; refine nq ?_; exact ⟨_, by omega, i + 1, _, _, by omega, rfl, rfl, rfl, rfl, rfl, by rw [le_snoc]⟩
    · try simp only [lv1, lv2, lv3, lv4, lv5, lv6, Bool.not_true, Bool.not_false] at h
      refine tc_exit ?_; refine q_then_e (q_then_e (q_block_x (q_then_n ?_))); refine tc_seq ?_; refine tc_have (fun _ _ h => ct_cap (by repeat (first | with_reducible exact ct_here | apply ct_left)) h) fun hc5 => ?_; refine tc_reg ?_; refine tlm ?_; refine tla ?_; refine nq ?_; refine tc_ret ?_
      obtain rfl : i = n := by omega
      exact ⟨_, _, res1 rfl rfl, fun _ _ h => h, a5, c5, rfl, hc5, rfl⟩
end Go.Vl

set_option linter.unusedVariables false
set_option linter.unusedSimpArgs false
namespace Go.Vl
open Go Go.Proofs
def sbys (s : ByteArray) : List Nat := s.data.toList.map fun b => b.toNat
theorem sbys_len (s : ByteArray) : (sbys s).length = s.size := by unfold sbys; rw [List.length_map]; rfl
theorem sbys_at {s : ByteArray} {i : Nat} (h : i < s.size) : ∃ c : UInt8, s[i]? = some c ∧ (sbys s)[i]? = some c.toNat := by
  refine ⟨s[i], getElem?_pos s i h, ?_⟩
  unfold sbys
  rw [List.getElem?_map, List.getElem?_eq_getElem (by simpa using h)]
  simp; rfl
attribute [local irreducible] crk crL crc Sl pt ro
theorem Text_c {A : SP} {s : ByteArray} (hl : s.size ≤ 1099511627776 := by decide) :
    Fn Tryz.prog 118 #[.string s] (A) (fun r B => ∃ a c, r = .slice a (sbys s).length c ∧ (sbys s).length ≤ c ∧ B = A * Sl 1 (.slice a (sbys s).length c) (sbys s).length (bys (sbys s))) := by
  refine fn_enterW (args := [.string s]) Tryz.func118 rfl Tryz.ntmps118 (by simp) ?_
  have hxl := sbys_len s
  refine sr ?_; refine tla ?_; refine nq ?_; refine sr ?_; refine tla ?_; refine nq ?_; refine tc_seq ?_; refine sr ?_; refine tla ?_; refine nq ?_; refine tc_block ?_; refine tc_pre (fun _ _ h => sl_nil (k := 1) h) ?_; refine tc_loop (fun kk ρ BB => ∃ (i : Nat) (a5 : Option Addr) (c5 : Nat), (i ≤ s.size) ∧ kk = s.size - i ∧ ρ 3 = .slice a5 i c5 ∧ ρ 4 = .int .i64 (i : Nat) ∧ ρ 0 = .string s ∧ BB = A * Sl 1 (.slice a5 i c5) i (bys ((sbys s).take i))) (m := s.size - (0)) ?_ ?_
  · exact ⟨0, none, 0, by omega, rfl, rfl, rfl, rfl, rfl⟩
  · intro k ρ B hI
    obtain ⟨i, a5, c5, hp0, hkk1, hE3, hE4, hE0, rfl⟩ := hI
    refine tc_env (d := 3) hE3 ?_; refine tc_env (d := 4) hE4 ?_; refine tc_env (d := 0) hE0 ?_
    clear hE3 hE4 hE0
    refine tc_seq ?_; refine sr ?_; refine tlm ?_; refine tlm ?_; refine tv (o_lenS Tryz.underlying9 rfl) ?_; refine tv (o_lss rfl rfl) ?_; refine nq ?_; refine tc_cond rfl (fun h => ?_) (fun h => ?_)
    · have hi : i < s.size := by simp at h; omega
      obtain ⟨cc, h1, h2⟩ := sbys_at hi
      refine tc_skip ?_; refine q_then_n ?_; refine tc_seq ?_; refine tc_block ?_; refine tc_reg ?_; refine tlm ?_; refine tlm ?_; refine tlm ?_; refine tv (o_indexS Tryz.underlying9 rfl rfl (by omega) h1) ?_; refine tl_env (d := 14) (v := .int .u8 ((cc.toNat : Nat) : Int)) (rfl) ?_; refine tl_x rfl (o_buildSlice1 Tryz.underlying32 sz5 z5 (by conv => lhs; whnf) rfl) ?_; rintro _ _ ⟨b15, rfl, rfl⟩; refine tl_x rfl (o_apB Tryz.underlying32 Tryz.underlying32 sz5 by5 z5 rfl (by decide) (by decide) rfl rfl rfl (by repeat (first | with_reducible exact ct_here | apply ct_left)) rfl (by first | exact bys_all _ | exact ints_all _ | exact wds_all _ | exact bos_all _ | rfl) (by first | omega | (simp only [bys_length, ints_length, wds_length, bos_length, List.length_append, List.length_take, List.length_drop, List.length_singleton]; omega)) (by first | exact bys_sn _ _ | exact ints_sn _ _ | exact wds_sn _ _ | exact bos_sn _ _ | exact (bys_append _ _).symm | rfl)) ?_; rintro _ _ ⟨a16, c16, rfl, hc16, rfl⟩; refine tla ?_; refine tl_nil ?_; refine q_block_n (q_then_n ?_); refine tc_reg ?_; refine tlm ?_; refine tv (by first | exact o_addI rfl rfl (by omega) | exact o_add rfl rfl) ?_; refine tla ?_; refine nq ?_; exact ⟨_, by omega, i + 1, _, _, by omega, rfl, rfl, rfl, rfl, by rw [List.take_add_one, h2]; rfl⟩
    · try simp only [lv1, lv2, lv3, lv4, lv5, lv6, Bool.not_true, Bool.not_false] at h
      refine tc_exit ?_; refine q_then_e (q_then_e (q_block_x (q_then_n ?_))); refine tc_seq ?_; refine tc_have (fun _ _ h => ct_cap (by repeat (first | with_reducible exact ct_here | apply ct_left)) h) fun hc5 => ?_
      obtain rfl : i = (sbys s).length := by omega
      rw [List.take_length]
      refine tc_reg ?_; refine tlm ?_; refine tla ?_; refine nq ?_; refine tc_ret ?_; exact ⟨_, _, res1 rfl rfl, fun _ _ h => h, a5, c5, rfl, hc5, rfl⟩
theorem Two_j {A : SP} {a1 a2 : Option Addr} {m1 m2 c1 c2 b : Nat} {xs ys : List Nat} {E : TypeId} (h1 : Rs A a1 (bys xs)) (h2 : Rs A a2 (bys ys)) (e1 : xs.length = m1) (e2 : ys.length = m2) (hl : m1 + m2 ≤ 17592186044416) :
    Fn Tryz.prog 131 #[.slice (some ⟨b, 0, none⟩) 2 2] (A * pt b (cl [.slice a1 m1 c1, .slice a2 m2 c2] E)) (fun r B => ∃ a c, r = .slice a (m1 + m2) c ∧ m1 + m2 ≤ c ∧ B = A * pt b (cl [.slice a1 m1 c1, .slice a2 m2 c2] E) * Sl 1 (.slice a (m1 + m2) c) (m1 + m2) (bys (xs ++ ys))) := by
  subst e1 e2
  refine fn_rs (xs := [.slice a1 xs.length c1, .slice a2 ys.length c2]) rs_pt0 fun hr => ?_; refine fn_rs h1.left fun h1 => fn_rs h2.left fun h2 => ?_
  have key := JoinN_f (A * pt b (cl [.slice a1 xs.length c1, .slice a2 ys.length c2] E)) (some ⟨b, 0, none⟩) 2 2 [xs, ys] ⟨_, rfl, hr, fun i hi => by
    match i, hi with
    | 0, _ => exact ⟨a1, c1, rfl, h1⟩
    | 1, _ => exact ⟨a2, c2, rfl, h2⟩⟩ (by simp; omega) (by simp) rfl
  have e : ([xs, ys] : List (List Nat)).flatten = xs ++ ys := by simp
  rw [e] at key
  have e3 : (xs ++ ys).length = xs.length + ys.length := by simp
  rw [e3] at key
  exact fn_sl key
theorem Two_c {A : SP} {a1 a2 : Option Addr} {m1 m2 c1 c2 : Nat} {xs ys : List Nat} (h1 : Rs A a1 (bys xs) := by repeat (first | assumption | with_reducible exact rs_sl | with_reducible exact rs_pt0 | exact rs_none | apply Rs.left)) (h2 : Rs A a2 (bys ys) := by repeat (first | assumption | with_reducible exact rs_sl | with_reducible exact rs_pt0 | exact rs_none | apply Rs.left)) (e1 : xs.length = m1 := by first | assumption | rfl) (e2 : ys.length = m2 := by first | assumption | rfl) (hl : m1 + m2 ≤ 17592186044416 := by omega) :
    Fn Tryz.prog 119 #[.slice a1 m1 c1, .slice a2 m2 c2] (A) (fun r B => ∃ a c, r = .slice a (m1 + m2) c ∧ m1 + m2 ≤ c ∧ B = A * Sl 1 (.slice a (m1 + m2) c) (m1 + m2) (bys (xs ++ ys))) := by
  refine fn_enterW (args := [.slice a1 m1 c1, .slice a2 m2 c2]) Tryz.func119 rfl Tryz.ntmps119 (by simp) ?_; refine sr ?_; refine tla ?_; refine nq ?_; refine sr ?_; refine tlm ?_; refine tlm ?_; refine tl_x rfl (o_buildSliceL (k := 1) (vs := [.slice a1 m1 c1, .slice a2 m2 c2]) (l := [.slice a1 m1 c1, .slice a2 m2 c2]) Tryz.underlying88 sz32 z32 rfl rfl (by decide) (by decide) (by intro v hv; simp at hv; rcases hv with rfl | rfl <;> rfl) rfl) ?_; rintro _ _ ⟨b7, rfl, rfl⟩; refine tl_c rfl (o_call bd131 rfl (Two_j h1 h2 e1 e2 hl)) ?_; rintro _ _ ⟨a8, c8, rfl, hc8, rfl⟩; refine tla ?_; refine nq ?_; refine tc_ret ?_; exact ⟨_, _, res1 rfl rfl, Dr.sat (by repeat (first | with_reducible exact dr_refl | apply dr_keep | apply dr_drop)), a8, c8, rfl, hc8, rfl⟩
end Go.Vl

set_option linter.unusedVariables false
set_option linter.unusedSimpArgs false
namespace Go.Vl
open Go Go.Proofs
def planL (n : Int) : List Int := [n, 128, 32768, 32896, (n - 32896) / 256]
def planT (n : Int) : List Int × Int := if 36992 ≤ n ∧ n ≤ 4194304 ∧ n % 64 = 0 then (planL n, 0) else ([0, 0, 0, 0, 0], 80)
theorem planT_t {n : Int} (h : 36992 ≤ n ∧ n ≤ 4194304 ∧ n % 64 = 0) : planT n = (planL n, 0) := if_pos h
theorem planT_f {n : Int} (h : ¬ (36992 ≤ n ∧ n ≤ 4194304 ∧ n % 64 = 0)) : planT n = ([0, 0, 0, 0, 0], 80) := if_neg h
theorem planT_len (n : Int) : (planT n).1.length = 5 := by unfold planT; split <;> rfl
attribute [local irreducible] crk crL crc Sl pt ro planT
theorem Plan_c {A : SP} {n : Int} :
    Fn Tryz.prog 61 #[.int .i64 n] (A) (fun r B => r = .tuple #[.agg (ints (planT n).1).toArray, .int .i64 (planT n).2] ∧ A = B) := by
  refine fn_enterW (args := [.int .i64 n]) Tryz.func61 rfl Tryz.ntmps61 (by simp) ?_; refine sr ?_; refine tl_x rfl (o_alloc z42 rfl) ?_; rintro _ _ ⟨b2, rfl, rfl⟩; refine tla ?_; refine nq ?_; refine tc_seq ?_; refine sr ?_; refine tlm ?_; refine tv (o_lss rfl rfl) ?_; refine tlm ?_; refine tl_bool (d := 6) rfl (fun h => ?_) (fun h => ?_)
  · try simp only [lv1, lv2, lv3, lv4, lv5, lv6, Bool.not_true, Bool.not_false] at h
    refine tk ?_; refine tk ?_; refine tv (o_pick_t rfl (by conv => lhs; whnf)) ?_; refine tlm ?_; refine tk ?_; refine tk ?_; refine tk ?_; refine tv (o_pick_t rfl (by conv => lhs; whnf)) ?_; refine nq ?_; refine tc_cond_t rfl ?_; refine sr ?_; refine tv (o_bS (l := ints [0, 0, 0, 0, 0]) pv_nil Tryz.underlying42 z42 (pl42 Tryz.underlying42) rfl) ?_; refine tl_u rfl (o_stUN (l' := ints [0, 0, 0, 0, 0]) rfl upd_here sz42 rfl rfl rfl (by simp) rfl) ?_; refine tla ?_; refine nq ?_; refine tc_ret ?_; refine q_then_r ?_
    first
    | (have hp := planT_t (n := n) (by omega); rw [hp]; exact ⟨.tuple #[.agg (ints (planL n)).toArray, .int .i64 0], A, resA2 rfl (rv_cell a42 sz42 rfl has_here (by show 5 ≤ 5; decide) rfl) (rv_tmp rfl), Dr.sat (by repeat (first | with_reducible exact dr_refl | apply dr_keep | apply dr_drop)), rfl, rfl⟩)
    | (have hp := planT_f (n := n) (by omega); rw [hp]; exact ⟨.tuple #[.agg (ints [0, 0, 0, 0, 0]).toArray, .int .i64 80], A, resA2 rfl (rv_cell a42 sz42 rfl has_here (by show 5 ≤ 5; decide) rfl) (rv_tmp rfl), Dr.sat (by repeat (first | with_reducible exact dr_refl | apply dr_keep | apply dr_drop)), rfl, rfl⟩)
  · try simp only [lv1, lv2, lv3, lv4, lv5, lv6, Bool.not_true, Bool.not_false] at h
    refine tlm ?_; refine tv (o_gtr rfl rfl) ?_; refine tv (o_pick_f rfl (by conv => lhs; whnf)) ?_; refine tlm ?_; refine tl_bool (d := 10) rfl (fun h => ?_) (fun h => ?_)
    · try simp only [lv1, lv2, lv3, lv4, lv5, lv6, Bool.not_true, Bool.not_false] at h
      refine tk ?_; refine tk ?_; refine tk ?_; refine tv (o_pick_t rfl (by conv => lhs; whnf)) ?_; refine nq ?_; refine tc_cond_t rfl ?_; refine sr ?_; refine tv (o_bS (l := ints [0, 0, 0, 0, 0]) pv_nil Tryz.underlying42 z42 (pl42 Tryz.underlying42) rfl) ?_; refine tl_u rfl (o_stUN (l' := ints [0, 0, 0, 0, 0]) rfl upd_here sz42 rfl rfl rfl (by simp) rfl) ?_; refine tla ?_; refine nq ?_; refine tc_ret ?_; refine q_then_r ?_
      first
      | (have hp := planT_t (n := n) (by omega); rw [hp]; exact ⟨.tuple #[.agg (ints (planL n)).toArray, .int .i64 0], A, resA2 rfl (rv_cell a42 sz42 rfl has_here (by show 5 ≤ 5; decide) rfl) (rv_tmp rfl), Dr.sat (by repeat (first | with_reducible exact dr_refl | apply dr_keep | apply dr_drop)), rfl, rfl⟩)
      | (have hp := planT_f (n := n) (by omega); rw [hp]; exact ⟨.tuple #[.agg (ints [0, 0, 0, 0, 0]).toArray, .int .i64 80], A, resA2 rfl (rv_cell a42 sz42 rfl has_here (by show 5 ≤ 5; decide) rfl) (rv_tmp rfl), Dr.sat (by repeat (first | with_reducible exact dr_refl | apply dr_keep | apply dr_drop)), rfl, rfl⟩)
    · try simp only [lv1, lv2, lv3, lv4, lv5, lv6, Bool.not_true, Bool.not_false] at h
      refine tlm ?_; refine tv (by first | exact o_remI rfl rfl (by omega) | exact o_rem rfl rfl (by omega)) ?_; refine tv (o_nei rfl rfl) ?_; refine tv (o_pick_f rfl (by conv => lhs; whnf)) ?_; refine nq ?_; refine tc_cond rfl (fun h => ?_) (fun h => ?_)
      · try simp only [lv1, lv2, lv3, lv4, lv5, lv6, Bool.not_true, Bool.not_false] at h
        refine sr ?_; refine tv (o_bS (l := ints [0, 0, 0, 0, 0]) pv_nil Tryz.underlying42 z42 (pl42 Tryz.underlying42) rfl) ?_; refine tl_u rfl (o_stUN (l' := ints [0, 0, 0, 0, 0]) rfl upd_here sz42 rfl rfl rfl (by simp) rfl) ?_; refine tla ?_; refine nq ?_; refine tc_ret ?_; refine q_then_r ?_
        first
        | (have hp := planT_t (n := n) (by omega); rw [hp]; exact ⟨.tuple #[.agg (ints (planL n)).toArray, .int .i64 0], A, resA2 rfl (rv_cell a42 sz42 rfl has_here (by show 5 ≤ 5; decide) rfl) (rv_tmp rfl), Dr.sat (by repeat (first | with_reducible exact dr_refl | apply dr_keep | apply dr_drop)), rfl, rfl⟩)
        | (have hp := planT_f (n := n) (by omega); rw [hp]; exact ⟨.tuple #[.agg (ints [0, 0, 0, 0, 0]).toArray, .int .i64 80], A, resA2 rfl (rv_cell a42 sz42 rfl has_here (by show 5 ≤ 5; decide) rfl) (rv_tmp rfl), Dr.sat (by repeat (first | with_reducible exact dr_refl | apply dr_keep | apply dr_drop)), rfl, rfl⟩)
      · try simp only [lv1, lv2, lv3, lv4, lv5, lv6, Bool.not_true, Bool.not_false] at h
        refine tc_skip ?_; refine q_then_n ?_; refine sr ?_; refine tlm ?_; refine tlm ?_; refine tv (by first | exact o_subI rfl rfl (by omega) | exact o_sub rfl rfl) ?_; refine tv (by first | exact o_quoI rfl rfl (by omega) | exact o_quo rfl rfl (by omega)) ?_; refine tv (o_bS (l := ints (planL n)) (pv_cons (by conv => lhs; whnf) (pv_cons (by conv => lhs; whnf) (pv_cons (by conv => lhs; whnf) (pv_cons (by conv => lhs; whnf) (pv_cons (by conv => lhs; whnf) pv_nil))))) Tryz.underlying42 z42 (pl42 Tryz.underlying42) rfl) ?_; refine tl_u rfl (o_stUN (l' := ints (planL n)) rfl upd_here sz42 rfl rfl rfl (by simp) rfl) ?_; refine tla ?_; refine nq ?_; refine tc_ret ?_
        first
        | (have hp := planT_t (n := n) (by omega); rw [hp]; exact ⟨.tuple #[.agg (ints (planL n)).toArray, .int .i64 0], A, resA2 rfl (rv_cell a42 sz42 rfl has_here (by show 5 ≤ 5; decide) rfl) (rv_tmp rfl), Dr.sat (by repeat (first | with_reducible exact dr_refl | apply dr_keep | apply dr_drop)), rfl, rfl⟩)
        | (have hp := planT_f (n := n) (by omega); rw [hp]; exact ⟨.tuple #[.agg (ints [0, 0, 0, 0, 0]).toArray, .int .i64 80], A, resA2 rfl (rv_cell a42 sz42 rfl has_here (by show 5 ≤ 5; decide) rfl) (rv_tmp rfl), Dr.sat (by repeat (first | with_reducible exact dr_refl | apply dr_keep | apply dr_drop)), rfl, rfl⟩)
theorem PlanR_c {A : SP} {n : Int} :
    Fn Tryz.prog 62 #[.int .i64 n] (A) (fun r B => r = .tuple #[.agg (ints (planT n).1).toArray, .int .i64 (planT n).2] ∧ A = B) := by
  refine fn_enterW (args := [.int .i64 n]) Tryz.func62 rfl Tryz.ntmps62 (by simp) ?_; refine sr ?_; refine tl_x rfl (o_alloc z42 rfl) ?_; rintro _ _ ⟨b2, rfl, rfl⟩; refine tla ?_; refine nq ?_; refine tc_seq ?_; refine sr ?_; refine tlm ?_; refine tv (o_lss rfl rfl) ?_; refine tlm ?_; refine tl_bool (d := 6) rfl (fun h => ?_) (fun h => ?_)
  · try simp only [lv1, lv2, lv3, lv4, lv5, lv6, Bool.not_true, Bool.not_false] at h
    refine tk ?_; refine tk ?_; refine tv (o_pick_t rfl (by conv => lhs; whnf)) ?_; refine tlm ?_; refine tk ?_; refine tk ?_; refine tk ?_; refine tv (o_pick_t rfl (by conv => lhs; whnf)) ?_; refine nq ?_; refine tc_cond_t rfl ?_; refine sr ?_; refine tv (o_bS (l := ints [0, 0, 0, 0, 0]) pv_nil Tryz.underlying42 z42 (pl42 Tryz.underlying42) rfl) ?_; refine tl_u rfl (o_stUN (l' := ints [0, 0, 0, 0, 0]) rfl upd_here sz42 rfl rfl rfl (by simp) rfl) ?_; refine tla ?_; refine nq ?_; refine tc_ret ?_; refine q_then_r ?_
    first
    | (have hp := planT_t (n := n) (by omega); rw [hp]; exact ⟨.tuple #[.agg (ints (planL n)).toArray, .int .i64 0], A, resA2 rfl (rv_cell a42 sz42 rfl has_here (by show 5 ≤ 5; decide) rfl) (rv_tmp rfl), Dr.sat (by repeat (first | with_reducible exact dr_refl | apply dr_keep | apply dr_drop)), rfl, rfl⟩)
    | (have hp := planT_f (n := n) (by omega); rw [hp]; exact ⟨.tuple #[.agg (ints [0, 0, 0, 0, 0]).toArray, .int .i64 80], A, resA2 rfl (rv_cell a42 sz42 rfl has_here (by show 5 ≤ 5; decide) rfl) (rv_tmp rfl), Dr.sat (by repeat (first | with_reducible exact dr_refl | apply dr_keep | apply dr_drop)), rfl, rfl⟩)
  · try simp only [lv1, lv2, lv3, lv4, lv5, lv6, Bool.not_true, Bool.not_false] at h
    refine tlm ?_; refine tv (o_gtr rfl rfl) ?_; refine tv (o_pick_f rfl (by conv => lhs; whnf)) ?_; refine tlm ?_; refine tl_bool (d := 10) rfl (fun h => ?_) (fun h => ?_)
    · try simp only [lv1, lv2, lv3, lv4, lv5, lv6, Bool.not_true, Bool.not_false] at h
      refine tk ?_; refine tk ?_; refine tk ?_; refine tv (o_pick_t rfl (by conv => lhs; whnf)) ?_; refine nq ?_; refine tc_cond_t rfl ?_; refine sr ?_; refine tv (o_bS (l := ints [0, 0, 0, 0, 0]) pv_nil Tryz.underlying42 z42 (pl42 Tryz.underlying42) rfl) ?_; refine tl_u rfl (o_stUN (l' := ints [0, 0, 0, 0, 0]) rfl upd_here sz42 rfl rfl rfl (by simp) rfl) ?_; refine tla ?_; refine nq ?_; refine tc_ret ?_; refine q_then_r ?_
      first
      | (have hp := planT_t (n := n) (by omega); rw [hp]; exact ⟨.tuple #[.agg (ints (planL n)).toArray, .int .i64 0], A, resA2 rfl (rv_cell a42 sz42 rfl has_here (by show 5 ≤ 5; decide) rfl) (rv_tmp rfl), Dr.sat (by repeat (first | with_reducible exact dr_refl | apply dr_keep | apply dr_drop)), rfl, rfl⟩)
      | (have hp := planT_f (n := n) (by omega); rw [hp]; exact ⟨.tuple #[.agg (ints [0, 0, 0, 0, 0]).toArray, .int .i64 80], A, resA2 rfl (rv_cell a42 sz42 rfl has_here (by show 5 ≤ 5; decide) rfl) (rv_tmp rfl), Dr.sat (by repeat (first | with_reducible exact dr_refl | apply dr_keep | apply dr_drop)), rfl, rfl⟩)
    · try simp only [lv1, lv2, lv3, lv4, lv5, lv6, Bool.not_true, Bool.not_false] at h
      refine tlm ?_; refine tv (by first | exact o_remI rfl rfl (by omega) | exact o_rem rfl rfl (by omega)) ?_; refine tv (o_nei rfl rfl) ?_; refine tv (o_pick_f rfl (by conv => lhs; whnf)) ?_; refine nq ?_; refine tc_cond rfl (fun h => ?_) (fun h => ?_)
      · try simp only [lv1, lv2, lv3, lv4, lv5, lv6, Bool.not_true, Bool.not_false] at h
        refine sr ?_; refine tv (o_bS (l := ints [0, 0, 0, 0, 0]) pv_nil Tryz.underlying42 z42 (pl42 Tryz.underlying42) rfl) ?_; refine tl_u rfl (o_stUN (l' := ints [0, 0, 0, 0, 0]) rfl upd_here sz42 rfl rfl rfl (by simp) rfl) ?_; refine tla ?_; refine nq ?_; refine tc_ret ?_; refine q_then_r ?_
        first
        | (have hp := planT_t (n := n) (by omega); rw [hp]; exact ⟨.tuple #[.agg (ints (planL n)).toArray, .int .i64 0], A, resA2 rfl (rv_cell a42 sz42 rfl has_here (by show 5 ≤ 5; decide) rfl) (rv_tmp rfl), Dr.sat (by repeat (first | with_reducible exact dr_refl | apply dr_keep | apply dr_drop)), rfl, rfl⟩)
        | (have hp := planT_f (n := n) (by omega); rw [hp]; exact ⟨.tuple #[.agg (ints [0, 0, 0, 0, 0]).toArray, .int .i64 80], A, resA2 rfl (rv_cell a42 sz42 rfl has_here (by show 5 ≤ 5; decide) rfl) (rv_tmp rfl), Dr.sat (by repeat (first | with_reducible exact dr_refl | apply dr_keep | apply dr_drop)), rfl, rfl⟩)
      · try simp only [lv1, lv2, lv3, lv4, lv5, lv6, Bool.not_true, Bool.not_false] at h
        refine tc_skip ?_; refine q_then_n ?_; refine sr ?_; refine tlm ?_; refine tlm ?_; refine tv (by first | exact o_subI rfl rfl (by omega) | exact o_sub rfl rfl) ?_; refine tv (by first | exact o_quoI rfl rfl (by omega) | exact o_quo rfl rfl (by omega)) ?_; refine tv (o_bS (l := ints (planL n)) (pv_cons (by conv => lhs; whnf) (pv_cons (by conv => lhs; whnf) (pv_cons (by conv => lhs; whnf) (pv_cons (by conv => lhs; whnf) (pv_cons (by conv => lhs; whnf) pv_nil))))) Tryz.underlying42 z42 (pl42 Tryz.underlying42) rfl) ?_; refine tl_u rfl (o_stUN (l' := ints (planL n)) rfl upd_here sz42 rfl rfl rfl (by simp) rfl) ?_; refine tla ?_; refine nq ?_; refine tc_ret ?_
        first
        | (have hp := planT_t (n := n) (by omega); rw [hp]; exact ⟨.tuple #[.agg (ints (planL n)).toArray, .int .i64 0], A, resA2 rfl (rv_cell a42 sz42 rfl has_here (by show 5 ≤ 5; decide) rfl) (rv_tmp rfl), Dr.sat (by repeat (first | with_reducible exact dr_refl | apply dr_keep | apply dr_drop)), rfl, rfl⟩)
        | (have hp := planT_f (n := n) (by omega); rw [hp]; exact ⟨.tuple #[.agg (ints [0, 0, 0, 0, 0]).toArray, .int .i64 80], A, resA2 rfl (rv_cell a42 sz42 rfl has_here (by show 5 ≤ 5; decide) rfl) (rv_tmp rfl), Dr.sat (by repeat (first | with_reducible exact dr_refl | apply dr_keep | apply dr_drop)), rfl, rfl⟩)
end Go.Vl

set_option linter.unusedVariables false
set_option linter.unusedSimpArgs false
namespace Go.Vl
open Go Go.Proofs
theorem splice_whole {vs l : List Value} (h : vs.length = l.length) : splice l 0 vs = vs := by
  rw [splice_eq (by omega)]; simp [h]
def magicB : List Nat := [86, 69, 76, 76, 85, 77, 48, 49]
def mbs (ns : List Nat) : List Nat := magicB ++ ns.flatMap (le 8)
def sbB (ns : List Nat) : List Nat := mbs ns ++ le 8 (crc 0 (mbs ns))
theorem mbs_nil : mbs [] = magicB := by unfold mbs; simp
theorem mbs_len (ns : List Nat) : (mbs ns).length = 8 + 8 * ns.length := by
  unfold mbs
  rw [List.length_append]
  induction ns with
  | nil => rfl
  | cons n ns ih => rw [List.flatMap_cons, List.length_append, le_length]; simp at ih ⊢; omega
theorem mbs_take {ns : List Nat} {i v : Nat} (h : ns[i]? = some v) : mbs (ns.take (i + 1)) = mbs (ns.take i) ++ le 8 v := by
  unfold mbs
  obtain ⟨hi, rfl⟩ := List.getElem?_eq_some_iff.1 h
  rw [List.take_succ_eq_append_getElem hi, List.flatMap_append, List.append_assoc]; simp
theorem mbs_lt (ns : List Nat) : ∀ x ∈ mbs ns, x < 256 := by
  intro x hx
  unfold mbs at hx
  rw [List.mem_append, List.mem_flatMap] at hx
  rcases hx with hx | ⟨v, _, hx⟩
  · simp only [magicB, List.mem_cons, List.not_mem_nil, or_false] at hx; omega
  · exact le_bytes 8 v x hx
theorem sbB_len {ns : List Nat} (h : ns.length = 6) : (sbB ns).length = 64 := by unfold sbB; rw [List.length_append, mbs_len, le_length, h]
theorem Sum_1 {A : SP} {a : Option Addr} {m c b : Nat} {xs : List Nat} {E : TypeId} (h1 : Rs A a (bys xs)) (e1 : xs.length = m) (hb : ∀ x ∈ xs, x < 256) (hl : m ≤ 1099511627776) :
    Fn Tryz.prog 122 #[.slice (some ⟨b, 0, none⟩) 1 1] (A * pt b (cl [.slice a m c] E)) (fun r B => r = .int .u32 ((crc 0 xs : Nat) : Int) ∧ A * pt b (cl [.slice a m c] E) = B) := by
  subst e1
  refine fn_rs (xs := [.slice a xs.length c]) rs_pt0 fun hr => ?_; refine fn_rs h1.left fun h1 => ?_
  exact Sum_c (ls := [xs]) ⟨_, rfl, hr, fun i hi => by
    match i, hi with
    | 0, _ => exact ⟨a, c, rfl, h1⟩⟩ rfl (by intro l hl; simp at hl; subst hl; exact hb) (by intro l hm; simp at hm; subst hm; exact hl) (by decide)
attribute [local irreducible] crk crL crc Sl pt ro planT mbs
set_option maxRecDepth 20000 in
set_option maxHeartbeats 1000000 in
theorem laid_c {A : SP} {n0 n1 n2 n3 n4 : Nat} (hn : n0 < 9223372036854775808 ∧ n1 < 9223372036854775808 ∧ n2 < 9223372036854775808 ∧ n3 < 9223372036854775808 ∧ n4 < 9223372036854775808) :
    Fn Tryz.prog 73 #[.agg (ints [(n0 : Int), (n1 : Int), (n2 : Int), (n3 : Int), (n4 : Int)]).toArray] (A) (fun r B => r = .agg (bys (sbB [n0, n1, n2, n3, n4, 0])).toArray ∧ A = B) := by
  refine fn_enterW (args := [.agg (ints [(n0 : Int), (n1 : Int), (n2 : Int), (n3 : Int), (n4 : Int)]).toArray]) Tryz.func73 rfl Tryz.ntmps73 (by simp) ?_; refine sr ?_; refine tl_x rfl (o_box rfl rfl) ?_; rintro _ _ ⟨b1, rfl, rfl⟩; refine tl_x rfl (o_alloc z107 rfl) ?_; rintro _ _ ⟨b2, rfl, rfl⟩; refine nq ?_; refine sr ?_; refine tl_x rfl (o_buildSliceL (k := 1) (vs := bys magicB) (l := bys magicB) Tryz.underlying32 sz5 z5 rfl rfl (by decide) (by decide) (by intro v hv; have := List.all_eq_true.1 (bys_all magicB) v hv; cases v <;> first | (simp [oneC] at this; done) | rfl) rfl) ?_; rintro _ _ ⟨b6, rfl, rfl⟩; refine tl_x rfl (o_cpyS Tryz.underlying32 Tryz.underlying5 rfl (by repeat (first | with_reducible exact upd_here | with_reducible exact upd_pt | apply upd_left))) ?_; rintro _ _ ⟨rfl, rfl⟩; refine tla ?_; refine nq ?_; refine tc_seq ?_; refine sr ?_; refine tv (o_fieldAddr (o := 0) Tryz.underlying42 rfl rfl sz3 rfl) ?_; refine tv (by first | exact o_load p3 rfl (by repeat (first | with_reducible exact has_here | with_reducible exact has_pt | apply has_left)) rfl | exact o_loadC p3 rfl (by assumption)) ?_; refine tv (o_fieldAddr (o := 1) Tryz.underlying42 rfl rfl sz3 rfl) ?_; refine tv (by first | exact o_load p3 rfl (by repeat (first | with_reducible exact has_here | with_reducible exact has_pt | apply has_left)) rfl | exact o_loadC p3 rfl (by assumption)) ?_
  refine tv (o_fieldAddr (o := 2) Tryz.underlying42 rfl rfl sz3 rfl) ?_; refine tv (by first | exact o_load p3 rfl (by repeat (first | with_reducible exact has_here | with_reducible exact has_pt | apply has_left)) rfl | exact o_loadC p3 rfl (by assumption)) ?_; refine tv (o_fieldAddr (o := 3) Tryz.underlying42 rfl rfl sz3 rfl) ?_; refine tv (by first | exact o_load p3 rfl (by repeat (first | with_reducible exact has_here | with_reducible exact has_pt | apply has_left)) rfl | exact o_loadC p3 rfl (by assumption)) ?_; refine tv (o_fieldAddr (o := 4) Tryz.underlying42 rfl rfl sz3 rfl) ?_; refine tv (by first | exact o_load p3 rfl (by repeat (first | with_reducible exact has_here | with_reducible exact has_pt | apply has_left)) rfl | exact o_loadC p3 rfl (by assumption)) ?_; refine tv (o_buildA (vs := ints [(n0 : Int), (n1 : Int), (n2 : Int), (n3 : Int), (n4 : Int)]) Tryz.underlying155 sz3 z155 rfl rfl rfl (by show 5 ≤ 6; decide) rfl) ?_; refine tlm ?_; refine nq ?_; refine tc_block ?_; refine tc_loop (fun kk ρ BB => ∃ (i : Nat) (a3 : Option Addr) (c3 : Nat) (X : SP), (i ≤ 6) ∧ (Rs (A * pt b1 (cl (ints [(n0 : Int), (n1 : Int), (n2 : Int), (n3 : Int), (n4 : Int)]) 42) * pt b2 (cl (List.replicate 64 (.int .u8 0)) 107) * X) a3 (bys (mbs (([n0, n1, n2, n3, n4, 0] : List Nat).take i)))) ∧ kk = 6 - i ∧ ρ 3 = .slice a3 (8 + 8 * i) c3 ∧ ρ 19 = .int .i64 (i : Nat) ∧ ρ 2 = .pointer (some ⟨b2, 0, none⟩) ∧ ρ 18 = .agg (ints [(n0 : Int), (n1 : Int), (n2 : Int), (n3 : Int), (n4 : Int), 0]).toArray ∧ BB = A * pt b1 (cl (ints [(n0 : Int), (n1 : Int), (n2 : Int), (n3 : Int), (n4 : Int)]) 42) * pt b2 (cl (List.replicate 64 (.int .u8 0)) 107) * X) (m := 6 - (0)) ?_ ?_
  · exact ⟨0, some ⟨b6, 0, none⟩, 8, pt b6 (.cells (bys magicB).toArray 5 (8, 9)), by omega, by rw [List.take_zero, mbs_nil]; exact rs_mk, rfl, rfl, rfl, rfl, rfl, rfl⟩
  · intro k ρ B hI
    obtain ⟨i, a3, c3, X, hp0, hp1, hkk1, hE3, hE19, hE2, hE18, rfl⟩ := hI
    refine tc_env (d := 3) hE3 ?_; refine tc_env (d := 19) hE19 ?_; refine tc_env (d := 2) hE2 ?_; refine tc_env (d := 18) hE18 ?_
    clear hE3 hE19 hE2 hE18
    refine sr ?_; refine tv (o_lss rfl rfl) ?_; refine nq ?_; refine tc_seq ?_; refine tc_cond rfl (fun h => ?_) (fun h => ?_)
    · have hi : i < 6 := by simp at h; omega
      obtain ⟨v, hv1, hv2, hv3⟩ : ∃ v : Nat, (ints [(n0 : Int), (n1 : Int), (n2 : Int), (n3 : Int), (n4 : Int), 0])[i]? = some (.int .i64 (v : Int)) ∧ ([n0, n1, n2, n3, n4, 0] : List Nat)[i]? = some v ∧ v < 9223372036854775808 := by
        match i, hi with
        | 0, _ => exact ⟨n0, rfl, rfl, hn.1⟩
        | 1, _ => exact ⟨n1, rfl, rfl, hn.2.1⟩
        | 2, _ => exact ⟨n2, rfl, rfl, hn.2.2.1⟩
        | 3, _ => exact ⟨n3, rfl, rfl, hn.2.2.2.1⟩
        | 4, _ => exact ⟨n4, rfl, rfl, hn.2.2.2.2⟩
        | 5, _ => exact ⟨0, rfl, rfl, by decide⟩
      have hml : (mbs (([n0, n1, n2, n3, n4, 0] : List Nat).take i)).length = 8 + 8 * i := by rw [mbs_len, List.length_take]; simp; omega
      refine tc_skip ?_; refine q_then_n ?_; refine tc_seq ?_; refine tc_block ?_; refine sr ?_; refine tv (o_index1 Tryz.underlying155 sz3 p3 rfl rfl (by omega) (by omega) hv1) ?_; refine tla ?_; refine nq ?_; refine tc_reg ?_; refine tlm ?_; refine tlm ?_; refine tv (by first | exact o_conv64 Tryz.underlying3 Tryz.underlying33 rfl | exact o_conv Tryz.underlying3 Tryz.underlying33 rfl) ?_; refine tl_env (d := 24) (v := .int .u64 ((v : Nat) : Int)) (congrArg (fun z : Nat => Value.int .u64 (z : Int)) (Nat.mod_eq_of_lt (by omega))) ?_; refine tl_c rfl (o_call bd98 rfl (Put64_c (hr := hp1) (hm := hml) (v := v))) ?_; rintro _ _ ⟨a25, c25, rfl, hc25, rfl⟩; refine tla ?_; refine tl_nil ?_; refine q_block_n (q_then_n ?_); refine tc_reg ?_; refine tv (by first | exact o_addI rfl rfl (by omega) | exact o_add rfl rfl) ?_; refine tlm ?_; refine nq ?_; exact ⟨_, by omega, i + 1, _, _, _, by omega, by rw [mbs_take hv2, ← star_assoc]; exact rs_sl, rfl, rfl, rfl, rfl, rfl, (star_assoc _ _ _)⟩
    · obtain rfl : i = 6 := by simp at h; omega
      rw [show ([n0, n1, n2, n3, n4, 0] : List Nat).take 6 = [n0, n1, n2, n3, n4, 0] from rfl] at hp1
      have hml : (mbs [n0, n1, n2, n3, n4, 0]).length = 56 := mbs_len _
      have hmb := mbs_lt [n0, n1, n2, n3, n4, 0]
      have hcc := crc_lt (s := 0) (by decide) hmb
      refine tc_exit ?_; refine q_then_e (q_then_e (q_block_x (q_then_n ?_))); refine sr ?_; refine tlm ?_; refine tlm ?_; refine tl_x rfl (o_buildSlice1 Tryz.underlying88 sz32 z32 (by conv => lhs; whnf) rfl) ?_; rintro _ _ ⟨b29, rfl, rfl⟩; refine tl_c rfl (o_call bd122 rfl (Sum_1 hp1 hml hmb (by decide))) ?_; rintro _ _ ⟨rfl, rfl⟩; refine tv (by first | exact o_conv64 Tryz.underlying126 Tryz.underlying33 rfl | exact o_conv Tryz.underlying126 Tryz.underlying33 rfl) ?_; refine tl_env (d := 31) (v := .int .u64 ((crc 0 (mbs [n0, n1, n2, n3, n4, 0]) : Nat) : Int)) (congrArg (fun z : Nat => Value.int .u64 (z : Int)) (Nat.mod_eq_of_lt (by omega))) ?_; refine tl_c rfl (o_call bd98 rfl (Put64_c (hr := hp1.left) (hm := hml))) ?_; rintro _ _ ⟨a32, c32, rfl, hc32, rfl⟩; refine tl_have (fun g w h => nn_sl (by decide) g w h (by omega)) fun ⟨b32, o32, e32⟩ => ?_
      subst e32
      refine tv (o_s2a (m := 64) Tryz.underlying107 rfl (by decide)) ?_; refine tv (o_ldPN (a := some ⟨b32, o32, none⟩) (i := 0) (vs := bys (sbB [n0, n1, n2, n3, n4, 0])) a107 sz107 rfl rs_sl (by rw [List.drop_zero]; exact List.take_of_length_le (by rw [bys_length, ← sbB]; rw [sbB_len rfl]; decide)) (by rw [bys_length, sbB_len rfl]) (by decide)) ?_; refine tl_u rfl (o_stUN (l' := bys (sbB [n0, n1, n2, n3, n4, 0])) rfl (by repeat (first | with_reducible exact upd_here | with_reducible exact upd_pt | apply upd_left)) sz107 rfl (by rw [bys_length, sbB_len rfl]) (bys_all _) (by simp) (splice_whole (by rw [bys_length, sbB_len rfl, List.length_replicate]))) ?_; refine nq ?_; refine tc_ret ?_; exact ⟨.agg (bys (sbB [n0, n1, n2, n3, n4, 0])).toArray, A, resA1 rfl (rv_cell a107 sz107 rfl (by repeat (first | with_reducible exact has_here | with_reducible exact has_pt | apply has_left)) (by rw [bys_length, sbB_len rfl]; decide) (by rw [List.drop_zero]; exact List.take_of_length_le (by rw [bys_length, sbB_len rfl]; decide))), Dr.sat (by repeat (first | with_reducible exact dr_refl | apply dr_keep | apply dr_drop)), rfl, rfl⟩
end Go.Vl

set_option linter.unusedVariables false
set_option linter.unusedSimpArgs false
namespace Go.Vl
open Go Go.Proofs
theorem planL_ok {n : Nat} (hn : 36992 ≤ n ∧ n ≤ 4194304 ∧ n % 64 = 0) : planT (n : Int) = ([(n : Int), ((128 : Nat) : Int), ((32768 : Nat) : Int), ((32896 : Nat) : Int), (((n - 32896) / 256 : Nat) : Int)], 0) := by
  rw [planT_t (by omega)]
  unfold planL
  have : ((n : Int) - 32896) / 256 = (((n - 32896) / 256 : Nat) : Int) := by omega
  rw [this]; rfl
theorem Plan_ok {A : SP} {n : Nat} (hn : 36992 ≤ n ∧ n ≤ 4194304 ∧ n % 64 = 0) : Fn Tryz.prog 61 #[.int .i64 (n : Int)] A (fun r B => r = .tuple #[.agg (ints [(n : Int), ((128 : Nat) : Int), ((32768 : Nat) : Int), ((32896 : Nat) : Int), (((n - 32896) / 256 : Nat) : Int)]).toArray, .int .i64 0] ∧ A = B) := by
  have := Plan_c (A := A) (n := (n : Int))
  rw [planL_ok hn] at this; exact this
theorem PlanR_ok {A : SP} {n : Nat} (hn : 36992 ≤ n ∧ n ≤ 4194304 ∧ n % 64 = 0) : Fn Tryz.prog 62 #[.int .i64 (n : Int)] A (fun r B => r = .tuple #[.agg (ints [(n : Int), ((128 : Nat) : Int), ((32768 : Nat) : Int), ((32896 : Nat) : Int), (((n - 32896) / 256 : Nat) : Int)]).toArray, .int .i64 0] ∧ A = B) := by
  have := PlanR_c (A := A) (n := (n : Int))
  rw [planL_ok hn] at this; exact this
attribute [local irreducible] crk crL crc Sl pt ro planT mbs sbB
set_option maxRecDepth 20000 in
set_option maxHeartbeats 1000000 in
theorem Line_ok {A : SP} {n : Nat} (hn : 36992 ≤ n ∧ n ≤ 4194304 ∧ n % 64 = 0) :
    Fn Tryz.prog 63 #[.agg (ints [(n : Int), ((128 : Nat) : Int), ((32768 : Nat) : Int), ((32896 : Nat) : Int), (((n - 32896) / 256 : Nat) : Int)]).toArray] (A) (fun r B => ∃ a c, r = .tuple #[.slice a 64 c, .int .i64 0] ∧ 64 ≤ c ∧ B = A * Sl 1 (.slice a 64 c) 64 (bys (sbB [n, 128, 32768, 32896, (n - 32896) / 256, 0]))) := by
  refine fn_enterW (args := [.agg (ints [(n : Int), ((128 : Nat) : Int), ((32768 : Nat) : Int), ((32896 : Nat) : Int), (((n - 32896) / 256 : Nat) : Int)]).toArray]) Tryz.func63 rfl Tryz.ntmps63 (by simp) ?_; refine sr ?_; refine tl_x rfl (o_box rfl rfl) ?_; rintro _ _ ⟨b1, rfl, rfl⟩; refine tla ?_; refine tla ?_; refine nq ?_; refine tc_seq ?_; refine sr ?_; refine tv (o_fieldAddr (o := 0) Tryz.underlying42 rfl rfl sz3 rfl) ?_; refine tv (by first | exact o_load p3 rfl (by repeat (first | with_reducible exact has_here | with_reducible exact has_pt | apply has_left)) rfl | exact o_loadC p3 rfl (by assumption)) ?_; refine tl_c rfl (o_call bd61 rfl (Plan_ok hn)) ?_; rintro _ _ ⟨rfl, rfl⟩; refine tlm ?_; refine tv (o_extract rfl rfl) ?_; refine tv (o_extract rfl rfl) ?_; refine tl_x rfl (o_alloc z42 rfl) ?_; rintro _ _ ⟨b4, rfl, rfl⟩; refine tl_u rfl (o_stUN (l' := ints [(n : Int), ((128 : Nat) : Int), ((32768 : Nat) : Int), ((32896 : Nat) : Int), (((n - 32896) / 256 : Nat) : Int)]) rfl (by repeat (first | with_reducible exact upd_here | with_reducible exact upd_pt | apply upd_left)) sz42 rfl rfl rfl (by simp) rfl) ?_; refine tla ?_; refine nq ?_; refine sr ?_; refine tlm ?_; refine tv (o_nei rfl rfl) ?_; refine tlm ?_; refine tl_bool (d := 15) rfl (fun h => ?_) (fun h => ?_)
  · (exfalso; first | (revert h; simp; done) | (simp at h; done) | (revert h; simp; omega) | (simp at h; omega) | omega)
  · try simp only [lv1, lv2, lv3, lv4, lv5, lv6, Bool.not_true, Bool.not_false] at h
    refine tv (o_loadN (vs := ints [(n : Int), ((128 : Nat) : Int), ((32768 : Nat) : Int), ((32896 : Nat) : Int), (((n - 32896) / 256 : Nat) : Int)]) a42 sz42 rfl (by repeat (first | with_reducible exact has_here | with_reducible exact has_pt | apply has_left)) (by show 5 ≤ 5; decide) rfl) ?_; refine tv (o_loadN (vs := ints [(n : Int), ((128 : Nat) : Int), ((32768 : Nat) : Int), ((32896 : Nat) : Int), (((n - 32896) / 256 : Nat) : Int)]) a42 sz42 rfl (by repeat (first | with_reducible exact has_here | with_reducible exact has_pt | apply has_left)) (by show 5 ≤ 5; decide) rfl) ?_; refine tv (o_nest (k := 5) (l := [(n : Int), ((128 : Nat) : Int), ((32768 : Nat) : Int), ((32896 : Nat) : Int), (((n - 32896) / 256 : Nat) : Int)]) (m := [(n : Int), ((128 : Nat) : Int), ((32768 : Nat) : Int), ((32896 : Nat) : Int), (((n - 32896) / 256 : Nat) : Int)]) Tryz.underlying42 (by kernel_rfl) (by kernel_rfl) (by kernel_rfl) rfl rfl rfl rfl) ?_; refine tv (o_pick_f rfl (by conv => lhs; whnf)) ?_; refine nq ?_; refine tc_cond rfl (fun h => ?_) (fun h => ?_)
    · exfalso; simp at h
    · try simp only [lv1, lv2, lv3, lv4, lv5, lv6, Bool.not_true, Bool.not_false] at h
      refine tc_skip ?_; refine q_then_n ?_; refine sr ?_; refine tv (o_loadN (vs := ints [(n : Int), ((128 : Nat) : Int), ((32768 : Nat) : Int), ((32896 : Nat) : Int), (((n - 32896) / 256 : Nat) : Int)]) a42 sz42 rfl (by repeat (first | with_reducible exact has_here | with_reducible exact has_pt | apply has_left)) (by show 5 ≤ 5; decide) rfl) ?_; refine tl_c rfl (o_call bd73 rfl (laid_c (by omega))) ?_; rintro _ _ ⟨rfl, rfl⟩; refine tl_x rfl (o_alloc z107 rfl) ?_; rintro _ _ ⟨b6, rfl, rfl⟩; refine tl_u rfl (o_stUN (l' := bys (sbB [n, 128, 32768, 32896, (n - 32896) / 256, 0])) rfl (by repeat (first | with_reducible exact upd_here | with_reducible exact upd_pt | apply upd_left)) sz107 rfl (by rw [bys_length, sbB_len rfl]) (bys_all _) (by simp) (splice_whole (by rw [bys_length, sbB_len rfl]; rfl))) ?_; refine nq ?_; refine sr ?_; refine tv (o_sliceA Tryz.underlying107 sz5 rfl bnd_none bnd_none (by omega) (by omega)) ?_; refine tla ?_; refine tla ?_; refine nq ?_; refine tc_ret ?_; exact ⟨.tuple #[.slice (some ⟨b6, 0, none⟩) 64 64, .int .i64 0], A * Sl 1 (.slice (some ⟨b6, 0, none⟩) 64 64) 64 (bys (sbB [n, 128, 32768, 32896, (n - 32896) / 256, 0])), res2 rfl rfl rfl, fun _ _ h => (Dr.sat (by repeat (first | with_reducible exact dr_refl | apply dr_keep | apply dr_drop))) _ _ (sl_new (k := 1) (n := 64) (cap := 64) (xs := bys (sbB [n, 128, 32768, 32896, (n - 32896) / 256, 0])) h (by omega) (by rw [bys_length, sbB_len rfl]; decide) (by exact List.take_of_length_le (by rw [bys_length, sbB_len rfl]; decide))), _, _, rfl, by decide, rfl⟩
set_option maxRecDepth 20000 in
set_option maxHeartbeats 1000000 in
theorem Line_no {A : SP} {i0 i1 i2 i3 i4 : Int} (hn : planT i0 ≠ ([i0, i1, i2, i3, i4], 0)) :
    Fn Tryz.prog 63 #[.agg (ints [i0, i1, i2, i3, i4]).toArray] (A) (fun r B => r = .tuple #[.slice none 0 0, .int .i64 100] ∧ A = B) := by
  refine fn_enterW (args := [.agg (ints [i0, i1, i2, i3, i4]).toArray]) Tryz.func63 rfl Tryz.ntmps63 (by simp) ?_; refine sr ?_; refine tl_x rfl (o_box rfl rfl) ?_; rintro _ _ ⟨b1, rfl, rfl⟩; refine tla ?_; refine tla ?_; refine nq ?_; refine tc_seq ?_; refine sr ?_; refine tv (o_fieldAddr (o := 0) Tryz.underlying42 rfl rfl sz3 rfl) ?_; refine tv (by first | exact o_load p3 rfl (by repeat (first | with_reducible exact has_here | with_reducible exact has_pt | apply has_left)) rfl | exact o_loadC p3 rfl (by assumption)) ?_; refine tl_c rfl (o_call bd61 rfl (Plan_c)) ?_; rintro _ _ ⟨rfl, rfl⟩; refine tlm ?_; refine tv (o_extract rfl rfl) ?_; refine tv (o_extract rfl rfl) ?_; refine tl_x rfl (o_alloc z42 rfl) ?_; rintro _ _ ⟨b4, rfl, rfl⟩; refine tl_u rfl (o_stUN (l' := ints (planT i0).1) rfl (by repeat (first | with_reducible exact upd_here | with_reducible exact upd_pt | apply upd_left)) sz42 rfl (by rw [ints_length, planT_len]) (ints_all _) (by simp) (splice_whole (by rw [ints_length, planT_len]; rfl))) ?_; refine tla ?_; refine nq ?_; refine sr ?_; refine tlm ?_; refine tv (o_nei rfl rfl) ?_; refine tlm ?_; refine tl_bool (d := 15) rfl (fun h => ?_) (fun h => ?_)
  · try simp only [lv1, lv2, lv3, lv4, lv5, lv6, Bool.not_true, Bool.not_false] at h
    refine tk ?_; refine tk ?_; refine tk ?_; refine tv (o_pick_t rfl (by conv => lhs; whnf)) ?_; refine nq ?_; refine tc_cond_t rfl ?_; refine sr ?_; refine tla ?_; refine tla ?_; refine nq ?_; refine tc_ret ?_; refine q_then_r ?_; exact ⟨.tuple #[.slice none 0 0, .int .i64 100], A, res2 rfl rfl rfl, Dr.sat (by repeat (first | with_reducible exact dr_refl | apply dr_keep | apply dr_drop)), rfl, rfl⟩
  · try simp only [lv1, lv2, lv3, lv4, lv5, lv6, Bool.not_true, Bool.not_false] at h
    refine tv (o_loadN (vs := ints (planT i0).1) a42 sz42 rfl (by repeat (first | with_reducible exact has_here | with_reducible exact has_pt | apply has_left)) (by rw [ints_length, planT_len]; decide) (by rw [List.drop_zero]; exact List.take_of_length_le (by rw [ints_length, planT_len]; decide))) ?_; refine tv (o_loadN (vs := ints [i0, i1, i2, i3, i4]) a42 sz42 rfl (by repeat (first | with_reducible exact has_here | with_reducible exact has_pt | apply has_left)) (by show 5 ≤ 5; decide) rfl) ?_; refine tv (o_nest (k := 5) (l := (planT i0).1) (m := [i0, i1, i2, i3, i4]) Tryz.underlying42 (by kernel_rfl) (by kernel_rfl) (by kernel_rfl) rfl rfl (planT_len _) rfl) ?_; refine tv (o_pick_f rfl (by conv => lhs; whnf)) ?_; refine nq ?_; refine tc_cond rfl (fun h => ?_) (fun h => ?_)
    · try simp only [lv1, lv2, lv3, lv4, lv5, lv6, Bool.not_true, Bool.not_false] at h
      refine sr ?_; refine tla ?_; refine tla ?_; refine nq ?_; refine tc_ret ?_; refine q_then_r ?_; exact ⟨.tuple #[.slice none 0 0, .int .i64 100], A, res2 rfl rfl rfl, Dr.sat (by repeat (first | with_reducible exact dr_refl | apply dr_keep | apply dr_drop)), rfl, rfl⟩
    · exfalso; rename_i h0; apply hn; simp at h; exact Prod.ext h (by simpa using h0)
end Go.Vl

set_option linter.unusedVariables false
set_option linter.unusedSimpArgs false
namespace Go.Vl
open Go Go.Proofs
theorem Text_m {A : SP} : Fn Tryz.prog 118 #[.string ⟨#[86, 69, 76, 76, 85, 77, 48, 49]⟩] A (fun r B => ∃ a c, r = .slice a 8 c ∧ 8 ≤ c ∧ B = A * Sl 1 (.slice a 8 c) 8 (bys magicB)) := Text_c (s := ⟨#[86, 69, 76, 76, 85, 77, 48, 49]⟩)
theorem sbB_def (ns : List Nat) : sbB ns = mbs ns ++ le 8 (crc 0 (mbs ns)) := rfl
attribute [local irreducible] crk crL crc Sl pt ro planT mbs sbB
set_option maxRecDepth 20000 in
set_option maxHeartbeats 1000000 in
theorem LineR_ok {A : SP} {n : Nat} (hn : 36992 ≤ n ∧ n ≤ 4194304 ∧ n % 64 = 0) :
    Fn Tryz.prog 64 #[.agg (ints [(n : Int), ((128 : Nat) : Int), ((32768 : Nat) : Int), ((32896 : Nat) : Int), (((n - 32896) / 256 : Nat) : Int)]).toArray] (A) (fun r B => ∃ a c, r = .tuple #[.slice a 64 c, .int .i64 0] ∧ 64 ≤ c ∧ B = A * Sl 1 (.slice a 64 c) 64 (bys (sbB [n, 128, 32768, 32896, (n - 32896) / 256, 0]))) := by
  refine fn_enterW (args := [.agg (ints [(n : Int), ((128 : Nat) : Int), ((32768 : Nat) : Int), ((32896 : Nat) : Int), (((n - 32896) / 256 : Nat) : Int)]).toArray]) Tryz.func64 rfl Tryz.ntmps64 (by simp) ?_; refine sr ?_; refine tl_x rfl (o_box rfl rfl) ?_; rintro _ _ ⟨b1, rfl, rfl⟩; refine tla ?_; refine tla ?_; refine nq ?_; refine sr ?_; refine tv (o_fieldAddr (o := 0) Tryz.underlying42 rfl rfl sz3 rfl) ?_; refine tv (by first | exact o_load p3 rfl (by repeat (first | with_reducible exact has_here | with_reducible exact has_pt | apply has_left)) rfl | exact o_loadC p3 rfl (by assumption)) ?_; refine tl_c rfl (o_call bd62 rfl (PlanR_ok hn)) ?_; rintro _ _ ⟨rfl, rfl⟩; refine tlm ?_; refine tv (o_extract rfl rfl) ?_; refine tv (o_extract rfl rfl) ?_; refine tl_x rfl (o_alloc z42 rfl) ?_; rintro _ _ ⟨b4, rfl, rfl⟩; refine tl_u rfl (o_stUN (l' := ints [(n : Int), ((128 : Nat) : Int), ((32768 : Nat) : Int), ((32896 : Nat) : Int), (((n - 32896) / 256 : Nat) : Int)]) rfl (by repeat (first | with_reducible exact upd_here | with_reducible exact upd_pt | apply upd_left)) sz42 rfl rfl rfl (by simp) rfl) ?_; refine tla ?_; refine nq ?_; refine tc_seq ?_; refine sr ?_; refine tlm ?_; refine tv (o_nei rfl rfl) ?_; refine tlm ?_; refine tl_bool (d := 17) rfl (fun h => ?_) (fun h => ?_)
  · (exfalso; first | (revert h; simp; done) | (simp at h; done) | (revert h; simp; omega) | (simp at h; omega) | omega)
  · try simp only [lv1, lv2, lv3, lv4, lv5, lv6, Bool.not_true, Bool.not_false] at h
    refine tv (o_loadN (vs := ints [(n : Int), ((128 : Nat) : Int), ((32768 : Nat) : Int), ((32896 : Nat) : Int), (((n - 32896) / 256 : Nat) : Int)]) a42 sz42 rfl (by repeat (first | with_reducible exact has_here | with_reducible exact has_pt | apply has_left)) (by show 5 ≤ 5; decide) rfl) ?_; refine tv (o_loadN (vs := ints [(n : Int), ((128 : Nat) : Int), ((32768 : Nat) : Int), ((32896 : Nat) : Int), (((n - 32896) / 256 : Nat) : Int)]) a42 sz42 rfl (by repeat (first | with_reducible exact has_here | with_reducible exact has_pt | apply has_left)) (by show 5 ≤ 5; decide) rfl) ?_; refine tv (o_nest (k := 5) (l := [(n : Int), ((128 : Nat) : Int), ((32768 : Nat) : Int), ((32896 : Nat) : Int), (((n - 32896) / 256 : Nat) : Int)]) (m := [(n : Int), ((128 : Nat) : Int), ((32768 : Nat) : Int), ((32896 : Nat) : Int), (((n - 32896) / 256 : Nat) : Int)]) Tryz.underlying42 (by kernel_rfl) (by kernel_rfl) (by kernel_rfl) rfl rfl rfl rfl) ?_; refine tv (o_pick_f rfl (by conv => lhs; whnf)) ?_; refine nq ?_; refine tc_cond rfl (fun h => ?_) (fun h => ?_)
    · exfalso; simp at h
    · try simp only [lv1, lv2, lv3, lv4, lv5, lv6, Bool.not_true, Bool.not_false] at h
      refine tc_skip ?_; refine q_then_n ?_; refine sr ?_; refine tl_c rfl (o_call bd118 rfl (Text_m)) ?_; rintro _ _ ⟨a22, c22, rfl, hc22, rfl⟩; refine tla ?_; refine nq ?_; refine sr ?_; refine tv (o_fieldAddr (o := 0) Tryz.underlying42 rfl rfl sz3 rfl) ?_; refine tv (by first | exact o_load p3 rfl (by repeat (first | with_reducible exact has_here | with_reducible exact has_pt | apply has_left)) rfl | exact o_loadC p3 rfl (by assumption)) ?_; refine tv (o_fieldAddr (o := 1) Tryz.underlying42 rfl rfl sz3 rfl) ?_; refine tv (by first | exact o_load p3 rfl (by repeat (first | with_reducible exact has_here | with_reducible exact has_pt | apply has_left)) rfl | exact o_loadC p3 rfl (by assumption)) ?_; refine tv (o_fieldAddr (o := 2) Tryz.underlying42 rfl rfl sz3 rfl) ?_; refine tv (by first | exact o_load p3 rfl (by repeat (first | with_reducible exact has_here | with_reducible exact has_pt | apply has_left)) rfl | exact o_loadC p3 rfl (by assumption)) ?_; refine tv (o_fieldAddr (o := 3) Tryz.underlying42 rfl rfl sz3 rfl) ?_; refine tv (by first | exact o_load p3 rfl (by repeat (first | with_reducible exact has_here | with_reducible exact has_pt | apply has_left)) rfl | exact o_loadC p3 rfl (by assumption)) ?_; refine tv (o_fieldAddr (o := 4) Tryz.underlying42 rfl rfl sz3 rfl) ?_; refine tv (by first | exact o_load p3 rfl (by repeat (first | with_reducible exact has_here | with_reducible exact has_pt | apply has_left)) rfl | exact o_loadC p3 rfl (by assumption)) ?_
      refine tl_x rfl (o_buildSliceL (k := 1) (vs := ints [(n : Int), ((128 : Nat) : Int), ((32768 : Nat) : Int), ((32896 : Nat) : Int), (((n - 32896) / 256 : Nat) : Int), ((0 : Nat) : Int)]) (l := ints [(n : Int), ((128 : Nat) : Int), ((32768 : Nat) : Int), ((32896 : Nat) : Int), (((n - 32896) / 256 : Nat) : Int), ((0 : Nat) : Int)]) Tryz.underlying34 sz3 z3 rfl rfl (by decide) (by decide) (by intro v hv; have := List.all_eq_true.1 (ints_all [(n : Int), ((128 : Nat) : Int), ((32768 : Nat) : Int), ((32896 : Nat) : Int), (((n - 32896) / 256 : Nat) : Int), ((0 : Nat) : Int)]) v hv; cases v <;> first | (simp [oneC] at this; done) | rfl) rfl) ?_; rintro _ _ ⟨b33, rfl, rfl⟩; refine tla ?_; refine nq ?_; refine tc_seq ?_; refine sr ?_; refine tla ?_; refine nq ?_; refine tc_block ?_; refine tc_eq (star_swap _ _ _) ?_; refine tc_loop (fun kk ρ BB => ∃ (i : Nat) (a6 : Option Addr) (c6 : Nat) (X : SP), (i ≤ 6) ∧ (Rs (A * pt b1 (cl (ints [(n : Int), ((128 : Nat) : Int), ((32768 : Nat) : Int), ((32896 : Nat) : Int), (((n - 32896) / 256 : Nat) : Int)]) 42) * pt b4 (cl (ints [(n : Int), ((128 : Nat) : Int), ((32768 : Nat) : Int), ((32896 : Nat) : Int), (((n - 32896) / 256 : Nat) : Int)]) 42) * pt b33 (cl (ints [(n : Int), ((128 : Nat) : Int), ((32768 : Nat) : Int), ((32896 : Nat) : Int), (((n - 32896) / 256 : Nat) : Int), ((0 : Nat) : Int)]) 3) * X) a6 (bys (mbs (([n, 128, 32768, 32896, (n - 32896) / 256, 0] : List Nat).take i)))) ∧ kk = 6 - i ∧ ρ 6 = .slice a6 (8 + 8 * i) c6 ∧ ρ 8 = .int .i64 (i : Nat) ∧ ρ 7 = .slice (some ⟨b33, 0, none⟩) 6 6 ∧ BB = A * pt b1 (cl (ints [(n : Int), ((128 : Nat) : Int), ((32768 : Nat) : Int), ((32896 : Nat) : Int), (((n - 32896) / 256 : Nat) : Int)]) 42) * pt b4 (cl (ints [(n : Int), ((128 : Nat) : Int), ((32768 : Nat) : Int), ((32896 : Nat) : Int), (((n - 32896) / 256 : Nat) : Int)]) 42) * pt b33 (cl (ints [(n : Int), ((128 : Nat) : Int), ((32768 : Nat) : Int), ((32896 : Nat) : Int), (((n - 32896) / 256 : Nat) : Int), ((0 : Nat) : Int)]) 3) * X) (m := 6 - (0)) ?_ ?_
      · exact ⟨0, a22, c22, Sl 1 (.slice a22 8 c22) 8 (bys magicB), by omega, by rw [List.take_zero, mbs_nil]; exact rs_sl, rfl, rfl, rfl, rfl, rfl⟩
      · intro k ρ B hI
        obtain ⟨i, a6, c6, X, hp0, hp1, hkk1, hE6, hE8, hE7, rfl⟩ := hI
        refine tc_env (d := 6) hE6 ?_; refine tc_env (d := 8) hE8 ?_; refine tc_env (d := 7) hE7 ?_
        clear hE6 hE8 hE7
        refine tc_seq ?_; refine sr ?_; refine tlm ?_; refine tlm ?_; refine tv (o_len Tryz.underlying34 rfl) ?_; refine tv (o_lss rfl rfl) ?_; refine nq ?_; refine tc_cond rfl (fun h => ?_) (fun h => ?_)
        · have hi : i < 6 := by simp at h; omega
          obtain ⟨v, hv1, hv2, hv3⟩ : ∃ v : Nat, (ints [(n : Int), ((128 : Nat) : Int), ((32768 : Nat) : Int), ((32896 : Nat) : Int), (((n - 32896) / 256 : Nat) : Int), ((0 : Nat) : Int)])[i]? = some (.int .i64 (v : Int)) ∧ ([n, 128, 32768, 32896, (n - 32896) / 256, 0] : List Nat)[i]? = some v ∧ v < 9223372036854775808 := by
            match i, hi with
            | 0, _ => exact ⟨n, rfl, rfl, by omega⟩
            | 1, _ => exact ⟨128, rfl, rfl, by decide⟩
            | 2, _ => exact ⟨32768, rfl, rfl, by decide⟩
            | 3, _ => exact ⟨32896, rfl, rfl, by decide⟩
            | 4, _ => exact ⟨(n - 32896) / 256, rfl, rfl, by omega⟩
            | 5, _ => exact ⟨0, rfl, rfl, by decide⟩
          have hml : (mbs (([n, 128, 32768, 32896, (n - 32896) / 256, 0] : List Nat).take i)).length = 8 + 8 * i := by rw [mbs_len, List.length_take]; simp; omega
          refine tc_skip ?_; refine q_then_n ?_; refine tc_seq ?_; refine tc_block ?_; refine tc_reg ?_; refine tlm ?_; refine tlm ?_; refine tlm ?_; refine tv (o_ixP1 (a := some ⟨b33, 0, none⟩) Tryz.underlying34 sz3 rfl rfl (by omega) nn_some) ?_; refine tv (o_ldP (a := some ⟨b33, 0, none⟩) p3 rfl rs_pt0.left hv1) ?_; refine tv (by first | exact o_conv64 Tryz.underlying3 Tryz.underlying33 rfl | exact o_conv Tryz.underlying3 Tryz.underlying33 rfl) ?_; refine tl_env (d := 45) (v := .int .u64 ((v : Nat) : Int)) (congrArg (fun z : Nat => Value.int .u64 (z : Int)) (Nat.mod_eq_of_lt (by omega))) ?_; refine tl_c rfl (o_call bd95 rfl (Little_c (v := v) (n := 8))) ?_; rintro _ _ ⟨a46, c46, rfl, hc46, rfl⟩; refine tl_c rfl (o_call bd119 rfl (Two_c (h1 := hp1.left) (h2 := rs_sl) (e1 := hml) (e2 := le_length 8 v) (hl := by omega))) ?_; rintro _ _ ⟨a47, c47, rfl, hc47, rfl⟩; refine tla ?_; refine tl_nil ?_; refine q_block_n (q_then_n ?_); refine tc_reg ?_; refine tlm ?_; refine tv (by first | exact o_addI rfl rfl (by omega) | exact o_add rfl rfl) ?_; refine tla ?_; refine nq ?_; exact ⟨_, by omega, i + 1, _, _, X * Sl 1 (.slice a46 8 c46) 8 (bys (le 8 v)) * Sl 1 (.slice a47 (8 + 8 * i + 8) c47) (8 + 8 * i + 8) (bys (mbs (([n, 128, 32768, 32896, (n - 32896) / 256, 0] : List Nat).take i) ++ le 8 v)), by omega, by rw [mbs_take hv2, ← star_assoc, ← star_assoc]; exact rs_sl, rfl, rfl, rfl, rfl, (by rw [← star_assoc, ← star_assoc])⟩
        · obtain rfl : i = 6 := by simp at h; omega
          rw [show ([n, 128, 32768, 32896, (n - 32896) / 256, 0] : List Nat).take 6 = [n, 128, 32768, 32896, (n - 32896) / 256, 0] from rfl] at hp1
          have hml : (mbs [n, 128, 32768, 32896, (n - 32896) / 256, 0]).length = 56 := mbs_len _
          have hmb := mbs_lt [n, 128, 32768, 32896, (n - 32896) / 256, 0]
          have hcc := crc_lt (s := 0) (by decide) hmb
          refine tc_exit ?_; refine q_then_e (q_then_e (q_block_x (q_then_n ?_))); refine sr ?_; refine tlm ?_; refine tlm ?_; refine tl_c rfl (o_call bd120 rfl (SumR_c (hr := hp1) (hm := hml) (hb := hmb) (hl := by decide))) ?_; rintro _ _ ⟨rfl, rfl⟩; refine tv (by first | exact o_conv64 Tryz.underlying126 Tryz.underlying33 rfl | exact o_conv Tryz.underlying126 Tryz.underlying33 rfl) ?_; refine tl_env (d := 51) (v := .int .u64 ((crc 0 (mbs [n, 128, 32768, 32896, (n - 32896) / 256, 0]) : Nat) : Int)) (congrArg (fun z : Nat => Value.int .u64 (z : Int)) (Nat.mod_eq_of_lt (by omega))) ?_; refine tl_c rfl (o_call bd95 rfl (Little_c (v := crc 0 (mbs [n, 128, 32768, 32896, (n - 32896) / 256, 0])) (n := 8))) ?_; rintro _ _ ⟨a52, c52, rfl, hc52, rfl⟩; refine tl_c rfl (o_call bd119 rfl (Two_c (h1 := hp1.left) (h2 := rs_sl) (e1 := hml) (e2 := le_length 8 _) (hl := by omega))) ?_; rintro _ _ ⟨a53, c53, rfl, hc53, rfl⟩; refine tla ?_; refine tla ?_; refine nq ?_; refine tc_ret ?_; exact ⟨.tuple #[.slice a53 64 c53, .int .i64 0], A * Sl 1 (.slice a53 64 c53) 64 (bys (sbB [n, 128, 32768, 32896, (n - 32896) / 256, 0])), res2 rfl rfl rfl, fun _ _ h => by rw [sbB_def]; exact Dr.sat (by repeat (first | with_reducible exact dr_refl | apply dr_keep | apply dr_drop)) _ _ h, a53, c53, rfl, hc53, rfl⟩
set_option maxRecDepth 20000 in
set_option maxHeartbeats 1000000 in
theorem LineR_no {A : SP} {i0 i1 i2 i3 i4 : Int} (hn : planT i0 ≠ ([i0, i1, i2, i3, i4], 0)) :
    Fn Tryz.prog 64 #[.agg (ints [i0, i1, i2, i3, i4]).toArray] (A) (fun r B => r = .tuple #[.slice none 0 0, .int .i64 100] ∧ A = B) := by
  refine fn_enterW (args := [.agg (ints [i0, i1, i2, i3, i4]).toArray]) Tryz.func64 rfl Tryz.ntmps64 (by simp) ?_; refine sr ?_; refine tl_x rfl (o_box rfl rfl) ?_; rintro _ _ ⟨b1, rfl, rfl⟩; refine tla ?_; refine tla ?_; refine nq ?_; refine sr ?_; refine tv (o_fieldAddr (o := 0) Tryz.underlying42 rfl rfl sz3 rfl) ?_; refine tv (by first | exact o_load p3 rfl (by repeat (first | with_reducible exact has_here | with_reducible exact has_pt | apply has_left)) rfl | exact o_loadC p3 rfl (by assumption)) ?_; refine tl_c rfl (o_call bd62 rfl (PlanR_c)) ?_; rintro _ _ ⟨rfl, rfl⟩; refine tlm ?_; refine tv (o_extract rfl rfl) ?_; refine tv (o_extract rfl rfl) ?_; refine tl_x rfl (o_alloc z42 rfl) ?_; rintro _ _ ⟨b4, rfl, rfl⟩; refine tl_u rfl (o_stUN (l' := ints (planT i0).1) rfl (by repeat (first | with_reducible exact upd_here | with_reducible exact upd_pt | apply upd_left)) sz42 rfl (by rw [ints_length, planT_len]) (ints_all _) (by simp) (splice_whole (by rw [ints_length, planT_len]; rfl))) ?_; refine tla ?_; refine nq ?_; refine tc_seq ?_; refine sr ?_; refine tlm ?_; refine tv (o_nei rfl rfl) ?_; refine tlm ?_; refine tl_bool (d := 17) rfl (fun h => ?_) (fun h => ?_)
  · try simp only [lv1, lv2, lv3, lv4, lv5, lv6, Bool.not_true, Bool.not_false] at h
    refine tk ?_; refine tk ?_; refine tk ?_; refine tv (o_pick_t rfl (by conv => lhs; whnf)) ?_; refine nq ?_; refine tc_cond_t rfl ?_; refine sr ?_; refine tla ?_; refine tla ?_; refine nq ?_; refine tc_ret ?_; refine q_then_r ?_; exact ⟨.tuple #[.slice none 0 0, .int .i64 100], A, res2 rfl rfl rfl, Dr.sat (by repeat (first | with_reducible exact dr_refl | apply dr_keep | apply dr_drop)), rfl, rfl⟩
  · try simp only [lv1, lv2, lv3, lv4, lv5, lv6, Bool.not_true, Bool.not_false] at h
    refine tv (o_loadN (vs := ints (planT i0).1) a42 sz42 rfl (by repeat (first | with_reducible exact has_here | with_reducible exact has_pt | apply has_left)) (by rw [ints_length, planT_len]; decide) (by rw [List.drop_zero]; exact List.take_of_length_le (by rw [ints_length, planT_len]; decide))) ?_; refine tv (o_loadN (vs := ints [i0, i1, i2, i3, i4]) a42 sz42 rfl (by repeat (first | with_reducible exact has_here | with_reducible exact has_pt | apply has_left)) (by show 5 ≤ 5; decide) rfl) ?_; refine tv (o_nest (k := 5) (l := (planT i0).1) (m := [i0, i1, i2, i3, i4]) Tryz.underlying42 (by kernel_rfl) (by kernel_rfl) (by kernel_rfl) rfl rfl (planT_len _) rfl) ?_; refine tv (o_pick_f rfl (by conv => lhs; whnf)) ?_; refine nq ?_; refine tc_cond rfl (fun h => ?_) (fun h => ?_)
    · try simp only [lv1, lv2, lv3, lv4, lv5, lv6, Bool.not_true, Bool.not_false] at h
      refine sr ?_; refine tla ?_; refine tla ?_; refine nq ?_; refine tc_ret ?_; refine q_then_r ?_; exact ⟨.tuple #[.slice none 0 0, .int .i64 100], A, res2 rfl rfl rfl, Dr.sat (by repeat (first | with_reducible exact dr_refl | apply dr_keep | apply dr_drop)), rfl, rfl⟩
    · exfalso; rename_i h0; apply hn; simp at h; exact Prod.ext h (by simpa using h0)
end Go.Vl

set_option linter.unusedVariables false
set_option linter.unusedSimpArgs false
namespace Go.Vl
open Go Go.Proofs
theorem sbB_head (n : Nat) (ns : List Nat) : ∃ r, sbB (n :: ns) = magicB ++ (n % 256 :: n / 256 % 256 :: r) := by
  unfold sbB mbs
  rw [List.flatMap_cons]
  have e : le 8 n = n % 256 :: n / 256 % 256 :: le 6 (n / 256 / 256) := rfl
  rw [e]
  exact ⟨_, by simp only [List.append_assoc, List.cons_append]; rfl⟩
theorem sob_magic : Value.bool ((sob magicB).toList == (⟨#[86, 69, 76, 76, 85, 77, 48, 49]⟩ : ByteArray).toList) = .bool true := by
  rw [show sob magicB = (⟨#[86, 69, 76, 76, 85, 77, 48, 49]⟩ : ByteArray) from rfl, beq_self_eq_true]
theorem Plan_w {A : SP} : Fn Tryz.prog 61 #[.int .i64 36992] A (fun r B => r = .tuple #[.agg (ints [(36992 : Int), ((128 : Nat) : Int), ((32768 : Nat) : Int), ((32896 : Nat) : Int), ((16 : Nat) : Int)]).toArray, .int .i64 0] ∧ A = B) := Plan_ok (n := 36992) (by decide)
theorem Line_w {A : SP} : Fn Tryz.prog 63 #[.agg (ints [(36992 : Int), ((128 : Nat) : Int), ((32768 : Nat) : Int), ((32896 : Nat) : Int), ((16 : Nat) : Int)]).toArray] A (fun r B => ∃ a c, r = .tuple #[.slice a 64 c, .int .i64 0] ∧ 64 ≤ c ∧ B = A * Sl 1 (.slice a 64 c) 64 (bys (sbB [36992, 128, 32768, 32896, 16, 0]))) := Line_ok (n := 36992) (by decide)
attribute [local irreducible] crk crL crc Sl pt ro planT mbs sbB
set_option maxRecDepth 20000 in
set_option maxHeartbeats 1000000 in
theorem works_c {A : SP} :
    Fn Tryz.prog 19 #[] (A) (fun r B => r = .bool true ∧ A = B) := by
  refine fn_enterW (args := []) Tryz.func19 rfl Tryz.ntmps19 (by simp) ?_; refine sr ?_; refine tla ?_; refine nq ?_; refine sr ?_; refine tl_c rfl (o_call bd61 rfl (Plan_w)) ?_; rintro _ _ ⟨rfl, rfl⟩; refine tlm ?_; refine tv (o_extract rfl rfl) ?_; refine tv (o_extract rfl rfl) ?_; refine tl_x rfl (o_alloc z42 rfl) ?_; rintro _ _ ⟨b1, rfl, rfl⟩; refine tl_u rfl (o_stUN (l' := ints [(36992 : Int), ((128 : Nat) : Int), ((32768 : Nat) : Int), ((32896 : Nat) : Int), ((16 : Nat) : Int)]) rfl (by repeat (first | with_reducible exact upd_here | with_reducible exact upd_pt | apply upd_left)) sz42 rfl rfl rfl (by simp) rfl) ?_; refine tla ?_; refine nq ?_; refine sr ?_; refine tv (o_loadN (vs := ints [(36992 : Int), ((128 : Nat) : Int), ((32768 : Nat) : Int), ((32896 : Nat) : Int), ((16 : Nat) : Int)]) a42 sz42 rfl (by repeat (first | with_reducible exact has_here | with_reducible exact has_pt | apply has_left)) (by show 5 ≤ 5; decide) rfl) ?_; refine tl_c rfl (o_call bd63 rfl (Line_w)) ?_; rintro _ _ ⟨a11, c11, rfl, hc11, rfl⟩
  obtain ⟨rr, hrr⟩ := sbB_head 36992 [128, 32768, 32896, 16, 0]
  have hlen := sbB_len (ns := [36992, 128, 32768, 32896, 16, 0]) rfl
  have hrs : Rs (A * pt b1 (cl (ints [(36992 : Int), ((128 : Nat) : Int), ((32768 : Nat) : Int), ((32896 : Nat) : Int), ((16 : Nat) : Int)]) 42) * Sl 1 (.slice a11 64 c11) 64 (bys (sbB [36992, 128, 32768, 32896, 16, 0]))) a11 (bys (sbB [36992, 128, 32768, 32896, 16, 0])) := rs_sl
  have e8 : (bys (sbB [36992, 128, 32768, 32896, 16, 0])).take 8 = bys magicB := by rw [hrr, bys_append]; rfl
  have h8 := (rs_cut (cap := c11) (l := 0) (k := 1) hrs (by rw [bys_length, hlen]; omega)).sub 8
  rw [Nat.zero_mul, List.drop_zero, e8] at h8
  refine tlm ?_; refine tv (o_extract rfl rfl) ?_; refine tv (o_extract rfl rfl) ?_; refine tla ?_; refine tla ?_; refine nq ?_; refine sr ?_; refine tlm ?_; refine tv (o_eqi rfl rfl) ?_; refine tlm ?_; refine tl_bool (d := 16) rfl (fun h => ?_) (fun h => ?_)
  · try simp only [lv1, lv2, lv3, lv4, lv5, lv6, Bool.not_true, Bool.not_false] at h
    refine tlm ?_; refine tv (o_eqi rfl rfl) ?_; refine tv (o_pick_t rfl (by conv => lhs; whnf)) ?_; refine tlm ?_; refine tl_bool (d := 20) rfl (fun h => ?_) (fun h => ?_)
    · try simp only [lv1, lv2, lv3, lv4, lv5, lv6, Bool.not_true, Bool.not_false] at h
      refine tv (o_loadN (vs := ints [(36992 : Int), ((128 : Nat) : Int), ((32768 : Nat) : Int), ((32896 : Nat) : Int), ((16 : Nat) : Int)]) a42 sz42 rfl (by repeat (first | with_reducible exact has_here | with_reducible exact has_pt | apply has_left)) (by show 5 ≤ 5; decide) rfl) ?_; refine tv (o_bS (l := ints [(36992 : Int), ((128 : Nat) : Int), ((32768 : Nat) : Int), ((32896 : Nat) : Int), ((16 : Nat) : Int)]) (pv_cons (by conv => lhs; whnf) (pv_cons (by conv => lhs; whnf) (pv_cons (by conv => lhs; whnf) (pv_cons (by conv => lhs; whnf) (pv_cons (by conv => lhs; whnf) pv_nil))))) Tryz.underlying42 z42 (pl42 Tryz.underlying42) rfl) ?_; refine tv (o_eqst (k := 5) (l := [(36992 : Int), ((128 : Nat) : Int), ((32768 : Nat) : Int), ((32896 : Nat) : Int), ((16 : Nat) : Int)]) (m := [(36992 : Int), ((128 : Nat) : Int), ((32768 : Nat) : Int), ((32896 : Nat) : Int), ((16 : Nat) : Int)]) Tryz.underlying42 (by kernel_rfl) (by kernel_rfl) (by kernel_rfl) rfl rfl rfl rfl) ?_; refine tv (o_pick_t rfl (by conv => lhs; whnf)) ?_; refine tlm ?_; refine tl_bool (d := 25) rfl (fun h => ?_) (fun h => ?_)
      · try simp only [lv1, lv2, lv3, lv4, lv5, lv6, Bool.not_true, Bool.not_false] at h
        refine tlm ?_; refine tv (o_len Tryz.underlying32 rfl) ?_; refine tv (o_eqi rfl rfl) ?_; refine tv (o_pick_t rfl (by conv => lhs; whnf)) ?_; refine tlm ?_; refine tl_bool (d := 30) rfl (fun h => ?_) (fun h => ?_)
        · try simp only [lv1, lv2, lv3, lv4, lv5, lv6, Bool.not_true, Bool.not_false] at h
          refine tlm ?_; refine tv (o_slice Tryz.underlying32 sz5 rfl bnd_none (bnd_some rfl (by omega)) (by omega) (by omega)) ?_; refine tv (o_b2s (xs := magicB) Tryz.underlying32 Tryz.underlying5 Tryz.underlying9 rfl h8 rfl (by decide)) ?_; refine tv ((o_eqstr rfl rfl).cast sob_magic) ?_; refine tv (o_pick_t rfl (by conv => lhs; whnf)) ?_; refine tlm ?_; refine tl_bool (d := 36) rfl (fun h => ?_) (fun h => ?_)
          · try simp only [lv1, lv2, lv3, lv4, lv5, lv6, Bool.not_true, Bool.not_false] at h
            refine tlm ?_; refine tv (o_ixP1 (j := 8) Tryz.underlying32 sz5 rfl rfl (by decide) (nn_rs hrs (fun _ => by rw [bys_length, hlen]; decide))) ?_; refine tv (o_ldP (v := .int .u8 128) p5 rfl hrs (by rw [hrr]; rfl)) ?_; refine tv (o_eqi rfl rfl) ?_; refine tv (o_pick_t rfl (by conv => lhs; whnf)) ?_; refine tlm ?_; refine tl_bool (d := 42) rfl (fun h => ?_) (fun h => ?_)
            · try simp only [lv1, lv2, lv3, lv4, lv5, lv6, Bool.not_true, Bool.not_false] at h
              refine tlm ?_; refine tv (o_ixP1 (j := 9) Tryz.underlying32 sz5 rfl rfl (by decide) (nn_rs hrs (fun _ => by rw [bys_length, hlen]; decide))) ?_; refine tv (o_ldP (v := .int .u8 144) p5 rfl hrs (by rw [hrr]; rfl)) ?_; refine tv (o_eqi rfl rfl) ?_; refine tv (o_pick_t rfl (by conv => lhs; whnf)) ?_; refine tla ?_; refine nq ?_; refine tc_ret ?_; exact ⟨.bool true, A, res1 rfl rfl, Dr.sat (by repeat (first | with_reducible exact dr_refl | apply dr_keep | apply dr_drop)), rfl, rfl⟩
            · (exfalso; first | (revert h; simp; done) | (simp at h; done) | (revert h; simp; omega) | (simp at h; omega) | omega)
          · (exfalso; first | (revert h; simp; done) | (simp at h; done) | (revert h; simp; omega) | (simp at h; omega) | omega)
        · (exfalso; first | (revert h; simp; done) | (simp at h; done) | (revert h; simp; omega) | (simp at h; omega) | omega)
      · (exfalso; first | (revert h; simp; done) | (simp at h; done) | (revert h; simp; omega) | (simp at h; omega) | omega)
    · (exfalso; first | (revert h; simp; done) | (simp at h; done) | (revert h; simp; omega) | (simp at h; omega) | omega)
  · (exfalso; first | (revert h; simp; done) | (simp at h; done) | (revert h; simp; omega) | (simp at h; omega) | omega)
end Go.Vl

set_option linter.unusedVariables false
set_option linter.unusedSimpArgs false
namespace Go.Vl
open Go Go.Proofs
def lineT (q0 q1 q2 q3 q4 : Int) : List Nat × Int := if planT q0 = ([q0, q1, q2, q3, q4], 0) then (sbB [q0.toNat, 128, 32768, 32896, (q0.toNat - 32896) / 256, 0], 0) else ([], 100)
theorem lineT_t {q0 q1 q2 q3 q4 : Int} (h : planT q0 = ([q0, q1, q2, q3, q4], 0)) : lineT q0 q1 q2 q3 q4 = (sbB [q0.toNat, 128, 32768, 32896, (q0.toNat - 32896) / 256, 0], 0) := if_pos h
theorem lineT_f {q0 q1 q2 q3 q4 : Int} (h : planT q0 ≠ ([q0, q1, q2, q3, q4], 0)) : lineT q0 q1 q2 q3 q4 = ([], 100) := if_neg h
theorem planT_inv {q0 q1 q2 q3 q4 : Int} (h : planT q0 = ([q0, q1, q2, q3, q4], 0)) : ∃ n : Nat, (36992 ≤ n ∧ n ≤ 4194304 ∧ n % 64 = 0) ∧ q0 = (n : Int) ∧ q1 = ((128 : Nat) : Int) ∧ q2 = ((32768 : Nat) : Int) ∧ q3 = ((32896 : Nat) : Int) ∧ q4 = (((n - 32896) / 256 : Nat) : Int) := by
  unfold planT at h
  split at h
  · rename_i hc
    unfold planL at h
    simp only [Prod.mk.injEq, List.cons.injEq, and_true, true_and] at h
    refine ⟨q0.toNat, ?_, ?_, ?_, ?_, ?_, ?_⟩ <;> omega
  · simp at h
theorem Line_u {A : SP} {q0 q1 q2 q3 q4 : Int} : Fn Tryz.prog 63 #[.agg (ints [q0, q1, q2, q3, q4]).toArray] A (fun r B => ∃ a c, r = .tuple #[.slice a (lineT q0 q1 q2 q3 q4).1.length c, .int .i64 (lineT q0 q1 q2 q3 q4).2] ∧ (lineT q0 q1 q2 q3 q4).1.length ≤ c ∧ B = A * Sl 1 (.slice a (lineT q0 q1 q2 q3 q4).1.length c) (lineT q0 q1 q2 q3 q4).1.length (bys (lineT q0 q1 q2 q3 q4).1)) := by
  by_cases h : planT q0 = ([q0, q1, q2, q3, q4], 0)
  · rw [lineT_t h]
    obtain ⟨n, hn, rfl, rfl, rfl, rfl, rfl⟩ := planT_inv h
    rw [Int.toNat_natCast, sbB_len rfl]
    exact Line_ok hn
  · rw [lineT_f h]
    intro g w hs
    refine (Line_no h g w hs).mono ?_; rintro e w' ⟨v, B, rfl, ⟨rfl, rfl⟩, hB⟩; exact ⟨_, _, rfl, ⟨none, 0, rfl, Nat.le_refl 0, rfl⟩, sl_nil hB⟩
theorem LineR_u {A : SP} {q0 q1 q2 q3 q4 : Int} : Fn Tryz.prog 64 #[.agg (ints [q0, q1, q2, q3, q4]).toArray] A (fun r B => ∃ a c, r = .tuple #[.slice a (lineT q0 q1 q2 q3 q4).1.length c, .int .i64 (lineT q0 q1 q2 q3 q4).2] ∧ (lineT q0 q1 q2 q3 q4).1.length ≤ c ∧ B = A * Sl 1 (.slice a (lineT q0 q1 q2 q3 q4).1.length c) (lineT q0 q1 q2 q3 q4).1.length (bys (lineT q0 q1 q2 q3 q4).1)) := by
  by_cases h : planT q0 = ([q0, q1, q2, q3, q4], 0)
  · rw [lineT_t h]
    obtain ⟨n, hn, rfl, rfl, rfl, rfl, rfl⟩ := planT_inv h
    rw [Int.toNat_natCast, sbB_len rfl]
    exact LineR_ok hn
  · rw [lineT_f h]
    intro g w hs
    refine (LineR_no h g w hs).mono ?_; rintro e w' ⟨v, B, rfl, ⟨rfl, rfl⟩, hB⟩; exact ⟨_, _, rfl, ⟨none, 0, rfl, Nat.le_refl 0, rfl⟩, sl_nil hB⟩
end Go.Vl

set_option linter.unusedVariables false
set_option linter.unusedSimpArgs false
namespace Go.Vl
open Go Go.Proofs
def stE (s : DevS) : Int := if s.off = true then 5 else 0
theorem stE_rdy (s : DevS) (h : s.off = true) : rdy s.ls.length s.off 0 0 = 5 := by unfold rdy; rw [if_pos h]
theorem Load0_c {A R : SP} {C : SP → SP} {d : Nat} {s : DevS} (hc : Ct A (Dev d s) R C) : Fn Tryz.prog 74 #[.pointer (some ⟨d, 0, none⟩), .int .i64 0, .int .i64 0] A (fun r B => ∃ v : Value, r = .tuple #[v, .int .i64 (stE s)] ∧ A = B) := by
  by_cases h : s.off = true
  · have e : stE s = 5 := if_pos h
    have := LoadNo_c hc (p := 0) (m := 0) (by omega) (by omega) (by rw [stE_rdy s h]; decide)
    rw [stE_rdy s h] at this
    rw [e]
    exact this.mono fun _ _ ⟨h1, h2⟩ => ⟨_, h1, h2⟩
  · have e : stE s = 0 := if_neg h
    rw [e]
    intro g w hs
    refine (Load_c hc (p := 0) (m := 0) (by simpa using h) (by omega) g w hs).mono ?_; rintro e w' ⟨v, B, rfl, ⟨a, c, rfl, _, rfl⟩, hB⟩; exact ⟨_, _, rfl, ⟨_, rfl, rfl⟩, hB.left⟩
attribute [local irreducible] crk crL crc Sl pt ro mbs sbB planT Dev
theorem alive_c {A R : SP} {C : SP → SP} {d : Nat} {s : DevS} (hc : Ct A (Dev d s) R C := by repeat (first | with_reducible exact ct_here | apply ct_left)) :
    Fn Tryz.prog 75 #[.pointer (some ⟨d, 0, none⟩)] (A) (fun r B => r = .int .i64 (stE s) ∧ A = B) := by
  refine fn_enterW (args := [.pointer (some ⟨d, 0, none⟩)]) Tryz.func75 rfl Tryz.ntmps75 (by simp) ?_; refine sr ?_; refine tla ?_; refine nq ?_; refine sr ?_; refine tlm ?_; refine tl_c rfl (o_call bd74 rfl (Load0_c hc)) ?_; rintro _ _ ⟨v7, rfl, rfl⟩; refine tlm ?_; refine tv (o_extract rfl rfl) ?_; refine tv (o_extract rfl rfl) ?_; refine tla ?_; refine tla ?_; refine nq ?_; refine sr ?_; refine tlm ?_; refine tla ?_; refine nq ?_; refine tc_ret ?_; exact ⟨.int .i64 (stE s), A, res1 rfl rfl, fun _ _ h => h, rfl, rfl⟩
theorem Range0_c {A R : SP} {C : SP → SP} {d : Nat} {s : DevS} (hc : Ct A (Dev d s) R C := by repeat (first | with_reducible exact ct_here | apply ct_left)) {at_ : Int} :
    Fn Tryz.prog 23 #[.pointer (some ⟨d, 0, none⟩), .int .i64 at_, .int .i64 0] (A) (fun r B => r = .int .i64 (stE s) ∧ A = B) := by
  refine fn_enterW (args := [.pointer (some ⟨d, 0, none⟩), .int .i64 at_, .int .i64 0]) Tryz.func23 rfl Tryz.ntmps23 (by simp) ?_; refine sr ?_; refine tla ?_; refine nq ?_; refine tc_seq ?_; refine sr ?_; refine tlm ?_; refine tl_c rfl (o_call bd75 rfl (alive_c hc)) ?_; rintro _ _ ⟨rfl, rfl⟩; refine tla ?_; refine nq ?_; refine sr ?_; refine tlm ?_; refine tv (o_nei rfl rfl) ?_; refine nq ?_; refine tc_cond rfl (fun h => ?_) (fun h => ?_)
  · try simp only [lv1, lv2, lv3, lv4, lv5, lv6, Bool.not_true, Bool.not_false] at h
    refine sr ?_; refine tlm ?_; refine tla ?_; refine nq ?_; refine tc_ret ?_; refine q_then_r ?_
    first | exact ⟨.int .i64 (stE s), A, res1 rfl rfl, fun _ _ h => h, rfl, rfl⟩ | exact ⟨.int .i64 0, A, res1 rfl rfl, fun _ _ h => h, by rw [h0], rfl⟩
  · have h0 : stE s = 0 := by simpa using h
    refine tc_skip ?_; refine q_then_n ?_; refine tc_seq ?_; refine sr ?_; refine tlm ?_; refine tv (o_lss rfl rfl) ?_; refine nq ?_; refine tc_cond rfl (fun h => ?_) (fun h => ?_)
    · try simp only [lv1, lv2, lv3, lv4, lv5, lv6, Bool.not_true, Bool.not_false] at h
      refine sr ?_; refine tla ?_; refine nq ?_; refine tc_ret ?_; refine q_then_r ?_
      first | exact ⟨.int .i64 (stE s), A, res1 rfl rfl, fun _ _ h => h, rfl, rfl⟩ | exact ⟨.int .i64 0, A, res1 rfl rfl, fun _ _ h => h, by rw [h0], rfl⟩
    · (exfalso; first | (revert h; simp; done) | (simp at h; done) | (revert h; simp; omega) | (simp at h; omega) | omega)
theorem state_c {A R : SP} {C : SP → SP} {d : Nat} {s : DevS} (hc : Ct A (Dev d s) R C := by repeat (first | with_reducible exact ct_here | apply ct_left)) :
    Fn Tryz.prog 72 #[.pointer (some ⟨d, 0, none⟩)] (A) (fun r B => r = .int .i64 (stE s) ∧ A = B) := by
  refine fn_enterW (args := [.pointer (some ⟨d, 0, none⟩)]) Tryz.func72 rfl Tryz.ntmps72 (by simp) ?_; refine sr ?_; refine tla ?_; refine nq ?_; refine sr ?_; refine tlm ?_; refine tl_c rfl (o_call bd23 rfl (Range0_c hc)) ?_; rintro _ _ ⟨rfl, rfl⟩; refine tla ?_; refine nq ?_; refine tc_ret ?_; exact ⟨.int .i64 (stE s), A, res1 rfl rfl, fun _ _ h => h, rfl, rfl⟩
end Go.Vl

set_option linter.unusedVariables false
set_option linter.unusedSimpArgs false
namespace Go.Vl
open Go Go.Proofs
theorem bys_eq (s : List Nat) : bys s = (s.map fun n : Nat => (n : Int)).map (Value.int .u8) := by rw [bys, List.map_map]; rfl
section
variable {P : Program} {n : Nat} {ρ : Env} {dst : Option Nat} {ty : TypeId} {pos : String} {after : Array Edge} {gd : Option (Nat × Bool)} {A : SP}
theorem o_nearrB {t t' e : TypeId} {x y : Operand} {len : Nat} {xs ys : List Nat} (hu : P.underlying t = some (.array len e)) (hk : szE P e = some 1) (he : P.underlying e = some (.int .u8)) (hp : plainE P e = true)
    (hge : P.eqGuardType P.depth t = false) (hx : ev n ρ x = .agg (bys xs).toArray) (hy : ev n ρ y = .agg (bys ys).toArray) (h1 : xs.length = len) (h2 : ys.length = len) :
    OpV P n ρ A ⟨dst, .binOp .neq t x y t', ty, pos, after, gd⟩ (.bool (!decide (xs = ys))) := by
  have := o_nearr (A := A) (dst := dst) (ty := ty) (pos := pos) (after := after) (gd := gd) (t' := t') hu hk he hp hge (by rw [hx, bys_eq]) (by rw [hy, bys_eq]) (by rw [List.length_map, h1]) (by rw [List.length_map, h2])
  rwa [show decide ((xs.map fun n : Nat => (n : Int)) = (ys.map fun n : Nat => (n : Int))) = decide (xs = ys) from by simp only [map_inj]] at this
end
def rdT (n : Nat) (I : List Nat) : List Int × Int := if I.take 64 = sbB [n, 128, 32768, 32896, (n - 32896) / 256, 0] then ([(n : Int), ((128 : Nat) : Int), ((32768 : Nat) : Int), ((32896 : Nat) : Int), (((n - 32896) / 256 : Nat) : Int)], 0) else ([0, 0, 0, 0, 0], 100)
theorem rdT_t {n : Nat} {I : List Nat} (h : I.take 64 = sbB [n, 128, 32768, 32896, (n - 32896) / 256, 0]) : rdT n I = ([(n : Int), ((128 : Nat) : Int), ((32768 : Nat) : Int), ((32896 : Nat) : Int), (((n - 32896) / 256 : Nat) : Int)], 0) := if_pos h
theorem rdT_f {n : Nat} {I : List Nat} (h : I.take 64 ≠ sbB [n, 128, 32768, 32896, (n - 32896) / 256, 0]) : rdT n I = ([0, 0, 0, 0, 0], 100) := if_neg h
attribute [local irreducible] crk crL crc Sl pt ro mbs sbB planT Dev imgS
set_option maxRecDepth 20000 in
set_option maxHeartbeats 1000000 in
theorem Read_ok {A R : SP} {C : SP → SP} {d : Nat} {s : DevS} (hc : Ct A (Dev d s) R C := by repeat (first | with_reducible exact ct_here | apply ct_left)) {n : Nat} (hoff : s.off = false) (hlen : s.ls.length * 64 = n) (hn : 36992 ≤ n ∧ n ≤ 4194304 ∧ n % 64 = 0) (hil : (imgS s).length = n) :
    Fn Tryz.prog 16 #[.pointer (some ⟨d, 0, none⟩)] (A) (fun r B => r = .tuple #[.agg (ints (rdT n (imgS s)).1).toArray, .int .i64 (rdT n (imgS s)).2] ∧ A = B) := by
  refine fn_enterW (args := [.pointer (some ⟨d, 0, none⟩)]) Tryz.func16 rfl Tryz.ntmps16 (by simp) ?_
  have hst : stE s = 0 := by unfold stE; rw [hoff]; rfl
  obtain ⟨rfl, hC⟩ := hc
  refine sr ?_; refine tl_x rfl (o_alloc z42 rfl) ?_; rintro _ _ ⟨b2, rfl, rfl⟩; refine tla ?_; refine nq ?_; refine tc_seq ?_; refine sr ?_; refine tlm ?_; refine tl_c rfl (o_call bd72 rfl (state_c (s := s))) ?_; rintro _ _ ⟨rfl, rfl⟩; refine tl_env (d := 9) (v := .int .i64 0) (congrArg (Value.int .i64) hst) ?_; refine tla ?_; refine nq ?_; refine sr ?_; refine tlm ?_; refine tv (o_nei rfl rfl) ?_; refine nq ?_; refine tc_cond rfl (fun h => ?_) (fun h => ?_)
  · exfalso; simp at h
  · try simp only [lv1, lv2, lv3, lv4, lv5, lv6, Bool.not_true, Bool.not_false] at h
    refine tc_skip ?_; refine q_then_n ?_; refine sr ?_; refine tlm ?_; refine tl_c rfl (o_call bd51 rfl (Size_c (s := s))) ?_; rintro _ _ ⟨rfl, rfl⟩; refine tl_env (d := 16) (v := .int .i64 (n : Int)) (congrArg (Value.int .i64) (by omega)) ?_; refine tl_c rfl (o_call bd61 rfl (Plan_ok hn)) ?_; rintro _ _ ⟨rfl, rfl⟩; refine tlm ?_; refine tv (o_extract rfl rfl) ?_; refine tv (o_extract rfl rfl) ?_; refine tl_x rfl (o_alloc z42 rfl) ?_; rintro _ _ ⟨b5, rfl, rfl⟩; refine tl_u rfl (o_stUN (l' := ints [(n : Int), ((128 : Nat) : Int), ((32768 : Nat) : Int), ((32896 : Nat) : Int), (((n - 32896) / 256 : Nat) : Int)]) rfl (by repeat (first | with_reducible exact upd_here | with_reducible exact upd_pt | apply upd_left)) sz42 rfl rfl rfl (by simp) rfl) ?_; refine tla ?_; refine nq ?_; refine tc_seq ?_; refine sr ?_; refine tlm ?_; refine tv (o_nei rfl rfl) ?_; refine nq ?_; refine tc_cond rfl (fun h => ?_) (fun h => ?_)
    · exfalso; simp at h
    · try simp only [lv1, lv2, lv3, lv4, lv5, lv6, Bool.not_true, Bool.not_false] at h
      refine tc_skip ?_; refine q_then_n ?_; refine sr ?_; refine tlm ?_; refine tl_c rfl (o_call bd74 rfl (Load_c (s := s) (p := 0) (m := 64) (hoff := hoff) (hpm := by omega))) ?_; rintro _ _ ⟨a25, c25, rfl, hc25, rfl⟩; refine tl_have (fun g w h => nn_sl (by decide) g w h (by decide)) fun ⟨b25, o25, e25⟩ => ?_
      subst e25
      have hI : ((imgS s).take 64).length = 64 := by rw [List.length_take]; omega
      refine tlm ?_; refine tv (o_extract rfl rfl) ?_; refine tv (o_extract rfl rfl) ?_; refine tla ?_; refine tla ?_; refine nq ?_; refine tc_seq ?_; refine tc_seq ?_; refine tc_regh mo dr_refl ?_
      show TH _ _ _ _ _ 10 #[ff,ff,ff,ff,ff,ff,ff,ff,ff,ff] _ _
      refine th_take (i := 0) (listed' := #[tt,ff,ff,ff,ff,ff,ff,ff,ff,ff]) rfl (by kernel_rfl) (by kernel_rfl) (by kernel_rfl) rfl rfl (o_move (by conv => lhs; whnf)) ?_; refine th_take (i := 1) (listed' := #[tt,tt,ff,ff,ff,ff,ff,ff,ff,ff]) rfl (by kernel_rfl) (by kernel_rfl) (by kernel_rfl) rfl rfl (o_nei rfl rfl) ?_; refine th_take (i := 2) (listed' := #[tt,tt,tt,ff,ff,ff,ff,ff,ff,ff]) rfl (by kernel_rfl) (by kernel_rfl) (by kernel_rfl) rfl rfl (o_move (by conv => lhs; whnf)) ?_; refine th_bool (d := 30) rfl (fun h => ?_) (fun h => ?_)
      · (exfalso; first | (revert h; simp; done) | (simp at h; done) | (revert h; simp; omega) | (simp at h; omega) | omega)
      · try simp only [lv1, lv2, lv3, lv4, lv5, lv6, Bool.not_true, Bool.not_false] at h
        refine th_take (i := 3) (listed' := #[tt,tt,tt,tt,ff,ff,ff,ff,ff,ff]) rfl (by kernel_rfl) (by kernel_rfl) (by kernel_rfl) rfl rfl (o_move (by conv => lhs; whnf)) ?_; refine th_take (i := 4) (listed' := #[tt,tt,tt,tt,tt,ff,ff,ff,ff,ff]) rfl (by kernel_rfl) (by kernel_rfl) (by kernel_rfl) rfl rfl (o_s2a (m := 64) Tryz.underlying107 rfl (by decide)) ?_; refine th_take (i := 5) (listed' := #[tt,tt,tt,tt,tt,tt,ff,ff,ff,ff]) rfl (by kernel_rfl) (by kernel_rfl) (by kernel_rfl) rfl rfl (o_ldPN (a := some ⟨b25, o25, none⟩) (i := 0) (vs := bys ((imgS s).take 64)) a107 sz107 rfl rs_sl (by rw [List.drop_zero, List.drop_zero]; exact List.take_of_length_le (by rw [bys_length, hI]; decide)) (by rw [bys_length, hI]) (by decide)) ?_; refine th_take (i := 6) (listed' := #[tt,tt,tt,tt,tt,tt,tt,ff,ff,ff]) rfl (by kernel_rfl) (by kernel_rfl) (by kernel_rfl) rfl rfl (o_loadN (vs := ints [(n : Int), ((128 : Nat) : Int), ((32768 : Nat) : Int), ((32896 : Nat) : Int), (((n - 32896) / 256 : Nat) : Int)]) a42 sz42 rfl (by repeat (first | with_reducible exact has_here | with_reducible exact has_pt | apply has_left)) (by show 5 ≤ 5; decide) rfl) ?_; refine th_one (i := 7) (by kernel_rfl) ?_; refine oh_c (i := 7) (listed' := #[tt,tt,tt,tt,tt,tt,tt,tt,ff,ff]) rfl rfl rfl (o_call bd73 rfl (laid_c (by omega))) ?_; rintro _ _ ⟨rfl, rfl⟩; refine ⟨by repeat (first | with_reducible exact dr_refl | apply dr_keep | apply dr_drop), ?_⟩; refine th_take (i := 8) (listed' := #[tt,tt,tt,tt,tt,tt,tt,tt,tt,ff]) rfl (by kernel_rfl) (by kernel_rfl) (by kernel_rfl) rfl rfl (o_nearrB (xs := (imgS s).take 64) (ys := sbB [n, 128, 32768, 32896, (n - 32896) / 256, 0]) Tryz.underlying107 sz5 Tryz.underlying5 p5 (by kernel_rfl) rfl rfl hI (sbB_len rfl)) ?_
        refine th_take (i := 9) (listed' := #[tt,tt,tt,tt,tt,tt,tt,tt,tt,tt]) rfl (by kernel_rfl) (by kernel_rfl) (by kernel_rfl) rfl rfl (o_pick_f rfl (by conv => lhs; whnf)) ?_; refine th_done (by kernel_rfl) ?_; refine q_then_n ?_; refine tc_cond rfl (fun h => ?_) (fun h => ?_)
        · try simp only [lv1, lv2, lv3, lv4, lv5, lv6, Bool.not_true, Bool.not_false] at h
          refine sr ?_; refine tv (o_bS (l := ints [0, 0, 0, 0, 0]) pv_nil Tryz.underlying42 z42 (pl42 Tryz.underlying42) rfl) ?_; refine tl_u rfl (o_stUN (l' := ints [0, 0, 0, 0, 0]) rfl (by repeat (first | with_reducible exact upd_here | with_reducible exact upd_pt | apply upd_left)) sz42 rfl rfl rfl (by simp) rfl) ?_; refine tla ?_; refine nq ?_; refine tc_ret ?_; refine q_then_r ?_
          first
          | (have hp := rdT_t (n := n) (I := imgS s) (by simpa using h); rw [hp]; exact ⟨.tuple #[.agg (ints [(n : Int), ((128 : Nat) : Int), ((32768 : Nat) : Int), ((32896 : Nat) : Int), (((n - 32896) / 256 : Nat) : Int)]).toArray, .int .i64 0], R * Dev d s, resA2 rfl (rv_cell a42 sz42 rfl (by repeat (first | with_reducible exact has_here | with_reducible exact has_pt | apply has_left)) (by show 5 ≤ 5; decide) rfl) (rv_tmp rfl), Dr.sat (by repeat (first | with_reducible exact dr_refl | apply dr_keep | apply dr_drop)), rfl, rfl⟩)
          | (have hp := rdT_f (n := n) (I := imgS s) (by simpa using h); rw [hp]; exact ⟨.tuple #[.agg (ints [0, 0, 0, 0, 0]).toArray, .int .i64 100], R * Dev d s, resA2 rfl (rv_cell a42 sz42 rfl (by repeat (first | with_reducible exact has_here | with_reducible exact has_pt | apply has_left)) (by show 5 ≤ 5; decide) rfl) (rv_tmp rfl), Dr.sat (by repeat (first | with_reducible exact dr_refl | apply dr_keep | apply dr_drop)), rfl, rfl⟩)
        · try simp only [lv1, lv2, lv3, lv4, lv5, lv6, Bool.not_true, Bool.not_false] at h
          refine tc_skip ?_; refine q_then_n ?_; refine sr ?_; refine tv (o_loadN (vs := ints [(n : Int), ((128 : Nat) : Int), ((32768 : Nat) : Int), ((32896 : Nat) : Int), (((n - 32896) / 256 : Nat) : Int)]) a42 sz42 rfl (by repeat (first | with_reducible exact has_here | with_reducible exact has_pt | apply has_left)) (by show 5 ≤ 5; decide) rfl) ?_; refine tl_u rfl (o_stUN (l' := ints [(n : Int), ((128 : Nat) : Int), ((32768 : Nat) : Int), ((32896 : Nat) : Int), (((n - 32896) / 256 : Nat) : Int)]) rfl (by repeat (first | with_reducible exact upd_here | with_reducible exact upd_pt | apply upd_left)) sz42 rfl rfl rfl (by simp) rfl) ?_; refine tla ?_; refine nq ?_; refine tc_ret ?_
          first
          | (have hp := rdT_t (n := n) (I := imgS s) (by simpa using h); rw [hp]; exact ⟨.tuple #[.agg (ints [(n : Int), ((128 : Nat) : Int), ((32768 : Nat) : Int), ((32896 : Nat) : Int), (((n - 32896) / 256 : Nat) : Int)]).toArray, .int .i64 0], R * Dev d s, resA2 rfl (rv_cell a42 sz42 rfl (by repeat (first | with_reducible exact has_here | with_reducible exact has_pt | apply has_left)) (by show 5 ≤ 5; decide) rfl) (rv_tmp rfl), Dr.sat (by repeat (first | with_reducible exact dr_refl | apply dr_keep | apply dr_drop)), rfl, rfl⟩)
          | (have hp := rdT_f (n := n) (I := imgS s) (by simpa using h); rw [hp]; exact ⟨.tuple #[.agg (ints [0, 0, 0, 0, 0]).toArray, .int .i64 100], R * Dev d s, resA2 rfl (rv_cell a42 sz42 rfl (by repeat (first | with_reducible exact has_here | with_reducible exact has_pt | apply has_left)) (by show 5 ≤ 5; decide) rfl) (rv_tmp rfl), Dr.sat (by repeat (first | with_reducible exact dr_refl | apply dr_keep | apply dr_drop)), rfl, rfl⟩)
end Go.Vl

set_option linter.unusedVariables false
set_option linter.unusedSimpArgs false
namespace Go.Vl.Rg
open Go
/-- Of what make the frame is: a function's, or a round's. -/
class Rm where
  r : Option Nat
def Fc (μ : Rm) : Fence := { Fence.wide with round := μ.r }
/-- The blocks of the deferred calls of loops that were begun: the frame keeps them behind its last slot. -/
def blk : Value → Nat
  | .int _ i => i.toNat
  | _ => 0
def mks : Value → List Nat
  | .tuple vs => vs.toList.map blk
  | _ => []
def mkv (rs : List Nat) : Value := .tuple (rs.map fun r : Nat => Value.int .i64 (r : Int)).toArray
theorem mks_mkv (rs : List Nat) : mks (mkv rs) = rs := by
  simp only [mkv, mks, List.map_map]
  induction rs with
  | nil => rfl
  | cons r rs ih => rw [List.map_cons, ih]; rfl
def mark (r : Nat) : Deferred := { target := .collected r, args := #[] }
def mkO : Obj := .deferred (some [])
structure Agr (n : Nat) (ρ : Env) (a : Act) : Prop where
  df : a.defers = (mks (ρ n)).map mark
  sz : a.tmps.size = n
  ev : ∀ t, t < n → a.tmps.getD t undef = ρ t
def put (n : Nat) (ρ : Env) : Option Tmp → Value → Env
  | some d, v => bif Nat.blt d n then upd ρ d v else ρ
  | none, _ => ρ
theorem Agr.plain {n : Nat} {ρ : Env} {a : Act} (h : Agr n ρ a) : Vl.Agr n ρ { a with defers := [] } := ⟨rfl, h.sz, h.ev⟩
theorem Agr.eval {n : Nat} {ρ : Env} {a : Act} (h : Agr n ρ a) : a.eval = Vl.ev n ρ := by
  rw [← h.plain.eval]; rfl
theorem Agr.put {n : Nat} {ρ : Env} {a : Act} (h : Agr n ρ a) (d : Option Tmp) (v : Value) : Agr n (Rg.put n ρ d v) (a.put d v) := by
  cases d with
  | none => exact h
  | some d =>
    simp only [Rg.put]
    cases hb : Nat.blt d n with
    | true =>
      have hlt := Nat.blt_eq.mp hb
      have := h.plain.put (some d) v
      refine ⟨?_, this.sz, this.ev⟩
      have hn : Nat.beq n d = false := by
        cases hb : Nat.beq n d with
        | false => rfl
        | true => have := Nat.eq_of_beq_eq_true hb; omega
      simp only [Act.put, cond_true, upd, hn, cond_false]
      exact h.df
    | false =>
      have hge : n ≤ d := by
        rcases Nat.lt_or_ge d n with hlt | hge
        · rw [Nat.blt_eq.mpr hlt] at hb; cases hb
        · exact hge
      refine ⟨h.df, by simp [Act.put, h.sz], fun t ht => ?_⟩
      simp only [Act.put, cond_false]
      rw [← h.ev t ht, Array.getD_eq_getD_getElem?, Array.getElem?_setIfInBounds, if_neg (by omega), Array.getD_eq_getD_getElem?]
def lift (g : Gh) (n : Nat) (Q : Post) : Exit → Act → World → Prop := fun e a w => okE e = true ∧ ∃ ρ A, Agr n ρ a ∧ sat g w A ∧ Q e ρ A
def TC [μ : Rm] (P : Program) (n : Nat) (c : Code) (Q : Post) (ρ : Env) (A : SP) : Prop :=
  ∀ g a w, Agr n ρ a → sat g w A → c.wpIn (Fc μ) 0 P (lift g n Q) a w
def TL [μ : Rm] (P : Program) (n : Nat) (ops : Array Oper) (Q : Post) (l : List Oper) (ρ : Env) (A : SP) : Prop :=
  ∀ g a w, Agr n ρ a → sat g w A → wpListIn (Fc μ) 0 P ops (lift g n Q) l a w
/-- A call of yield: what it hands back, and what holds of memory behind it. -/
def Yd (P : Program) (l : Nat) (args : Array Value) (A : SP) (Q : Value → SP → Prop) : Prop :=
  ∀ g w, sat g w A → ∃ f tmps assign body, (Instr.yield l args).run P w = .ok (.round l f tmps assign body) w ∧
    RoundIn Fence.wide 0 P l f tmps assign body w fun e w' => ∃ v B, e = .returned v ∧ Q v B ∧ sat g w' B
theorem Yd.mono {P : Program} {l : Nat} {args : Array Value} {A : SP} {Q Q' : Value → SP → Prop} (h : Yd P l args A Q) (k : ∀ v B, Q v B → Q' v B) : Yd P l args A Q' := fun g w hs =>
  let ⟨f, t, a, b, hy, hr⟩ := h g w hs
  ⟨f, t, a, b, hy, hr.mono fun _ _ ⟨v, B, e, q, s⟩ => ⟨v, B, e, k v B q, s⟩⟩
theorem Yd.pre {P : Program} {l : Nat} {args : Array Value} {A A' : SP} {Q : Value → SP → Prop} (h : Yd P l args A Q) (k : ∀ g w, sat g w A' → sat g w A) : Yd P l args A' Q := fun g w hs => h g w (k g w hs)
section
variable {μ : Rm} {P : Program} {n : Nat} {Q : Post} {ρ : Env} {A : SP}
theorem tc_imp {c : Code} {Q' : Post} (h : TC P n c Q ρ A) (k : ∀ e ρ A, Q e ρ A → Q' e ρ A) : TC P n c Q' ρ A :=
  fun g a w ha hs => wpIn_mono (h g a w ha hs) fun _ _ _ ⟨o, ρ, A, x, y, z⟩ => ⟨o, ρ, A, x, y, k _ _ _ z⟩
theorem tc_pre {c : Code} {A' : SP} (k : ∀ g w, sat g w A → sat g w A') (h : TC P n c Q ρ A') : TC P n c Q ρ A :=
  fun g a w ha hs => h g a w ha (k g w hs)
theorem tc_eq {c : Code} {A' : SP} (k : A = A') (h : TC P n c Q ρ A') : TC P n c Q ρ A := k ▸ h
theorem tc_env {c : Code} {d : Nat} {v : Value} (h : ρ d = v) (k : TC P n c Q (upd ρ d v) A) : TC P n c Q ρ A := by
  rw [← env_set h] at k; exact k
theorem tc_have {c : Code} {p : Prop} (k : ∀ g w, sat g w A → p) (h : p → TC P n c Q ρ A) : TC P n c Q ρ A :=
  fun g a w ha hs => h (k g w hs) g a w ha hs
theorem tc_seq {x y : Code} (h : TC P n x (thenQ (TC P n y Q) Q) ρ A) : TC P n (x.seq y) Q ρ A := fun g a w ha hs =>
  wpIn_seq (wpIn_mono (h g a w ha hs) fun e a' w' ⟨hok, ρ', A', ha', hs', hq⟩ => by
    cases e with
    | normal => exact hq g a' w' ha' hs'
    | _ => exact ⟨hok, ρ', A', ha', hs', hq⟩)
theorem tc_skip (h : Q .normal ρ A) : TC P n .skip Q ρ A := fun g a w ha hs => wpIn_skip ⟨rfl, ρ, A, ha, hs, h⟩
theorem tc_ret (h : Q .ret ρ A) : TC P n .ret Q ρ A := fun g a w ha hs => wpIn_ret ⟨rfl, ρ, A, ha, hs, h⟩
theorem tc_exit {id : Nat} (h : Q (.exit id) ρ A) : TC P n (.exit id) Q ρ A := fun g a w ha hs => wpIn_exit ⟨rfl, ρ, A, ha, hs, h⟩
theorem tc_block {id : Nat} {c : Code} (h : TC P n c (blockQ id Q) ρ A) : TC P n (.block id c) Q ρ A := fun g a w ha hs =>
  wpIn_block (wpIn_mono (h g a w ha hs) fun e a' w' ⟨hok, ρ', A', ha', hs', hq⟩ => by
    cases e with
    | exit k =>
      simp only [Exit.inBlock]
      by_cases hk : k = id
      · subst hk
        simp only [blockQ, Nat.beq_refl, cond_true] at hq
        rw [if_pos rfl]; exact ⟨rfl, ρ', A', ha', hs', hq⟩
      · have : Nat.beq k id = false := by
          cases hb : Nat.beq k id with
          | false => rfl
          | true => exact absurd (Nat.eq_of_beq_eq_true hb) hk
        simp only [blockQ, this, cond_false] at hq
        rw [if_neg hk]; exact ⟨rfl, ρ', A', ha', hs', hq⟩
    | _ => exact ⟨hok, ρ', A', ha', hs', hq⟩)
theorem tc_cond {c : Operand} {x y : Code} {t : Bool} (hc : ev n ρ c = .bool t) (h1 : t = true → TC P n x Q ρ A) (h2 : t = false → TC P n y Q ρ A) : TC P n (.cond c x y) Q ρ A := fun g a w ha hs => by
  refine wpIn_cond (t := t) (by rw [ha.eval]; exact hc) ?_
  cases t with
  | true => exact h1 rfl g a w ha hs
  | false => exact h2 rfl g a w ha hs
theorem tc_cond_t {c : Operand} {x y : Code} (hc : ev n ρ c = .bool true) (h : TC P n x Q ρ A) : TC P n (.cond c x y) Q ρ A := tc_cond hc (fun _ => h) (fun e => by cases e)
theorem tc_cond_f {c : Operand} {x y : Code} (hc : ev n ρ c = .bool false) (h : TC P n y Q ρ A) : TC P n (.cond c x y) Q ρ A := tc_cond hc (fun e => by cases e) (fun _ => h)
theorem tc_cut {c : Code} (M : Env → SP → Prop) (h : TC P n c (fun e ρ' A' => match e with | .normal => M ρ' A' | e => Q e ρ' A') ρ A) (k : ∀ ρ' A', M ρ' A' → Q .normal ρ' A') : TC P n c Q ρ A :=
  tc_imp h fun e ρ' A' hq => by
    cases e with
    | normal => exact k _ _ hq
    | _ => exact hq
theorem tc_loop {c : Code} (I : Nat → Env → SP → Prop) {m : Nat} (h0 : I m ρ A)
    (round : ∀ k ρ A, I k ρ A → TC P n c (thenQ (fun ρ' A' => ∃ k', k' < k ∧ I k' ρ' A') Q) ρ A) : TC P n (.loop c) Q ρ A := fun g a w ha hs b kk cs hro hb hr => by
  have key : ∀ k ρ A, I k ρ A → ∀ a w, Agr n ρ a → sat g w A → ∃ e a' w', lift g n Q e a' w' ∧ ArrivesIn (Machine.fenced P (Fc μ)) P (lone (b.atR a (.code c :: .inLoop c :: kk)) cs w) b kk cs e a' w' := by
    intro k
    induction k using Nat.strongRecOn with
    | _ k ih =>
      intro ρ A hI a w ha hs
      obtain ⟨e, a₁, w₁, ⟨hok, ρ₁, A₁, ha₁, hs₁, hq⟩, harr⟩ := round k ρ A hI g a w ha hs b (.inLoop c :: kk) cs hro hb hr
      cases e with
      | normal =>
        obtain ⟨k', hlt, hI'⟩ := hq
        obtain ⟨e₂, a₂, w₂, hq₂, harr₂⟩ := ih k' hlt ρ₁ A₁ hI' a₁ w₁ ha₁ hs₁
        exact ⟨e₂, a₂, w₂, hq₂, .of_steps (StepsIn.trans harr (.one (fenced_calm hb hr rfl) stepR_inLoop)) harr₂⟩
      | exit id => exact ⟨_, a₁, w₁, ⟨hok, ρ₁, A₁, ha₁, hs₁, hq⟩, .pass (x := .inLoop c) rfl (fun _ _ => .inl (by simp)) harr⟩
      | goto l => exact ⟨_, a₁, w₁, ⟨hok, ρ₁, A₁, ha₁, hs₁, hq⟩, .pass (x := .inLoop c) rfl (fun _ _ => .inl (by simp)) harr⟩
      | ret => exact ⟨_, a₁, w₁, ⟨hok, ρ₁, A₁, ha₁, hs₁, hq⟩, .pass (x := .inLoop c) rfl (fun _ _ => .inl (by simp)) harr⟩
      | panic ch => exact ⟨_, a₁, w₁, ⟨hok, ρ₁, A₁, ha₁, hs₁, hq⟩, .pass (x := .inLoop c) rfl (fun _ _ => .inl (by simp)) harr⟩
      | outgrown => exact ⟨_, a₁, w₁, ⟨hok, ρ₁, A₁, ha₁, hs₁, hq⟩, .pass (x := .inLoop c) rfl (fun _ _ => .inl (by simp)) harr⟩
  obtain ⟨e, a', w', hq, harr⟩ := key m ρ A h0 a w ha hs
  exact ⟨e, a', w', hq, .of_steps (.one (fenced_calm hb hr rfl) stepR_loop) harr⟩
/-! ### Operations -/
theorem want_eq {ops : Array Oper} {a : Act} {o : Oper} (ha : Agr n ρ a) : Region.wanted o (yielded ops a.tmps) = wantE n ops ρ o := by
  have := Vl.want_eq (ops := ops) (o := o) ha.plain
  exact this
theorem sem_eq {ro : Option Nat} {e : Operand → Value} {o : Oper} {w w' : World} {x : Next} (h : (execOp e o).run P w = .ok x w') (hd : ∀ d, x ≠ .defer d) : (Oper.semAt ro e o).run P w = .ok x w' := by
  cases ro with
  | none => exact h
  | some l =>
    by_cases hc : ∃ c, o.op = .defer c
    · exfalso
      obtain ⟨c, hc⟩ := hc
      unfold execOp at h
      rw [hc] at h
      simp only [] at h
      rw [Sem.run_bind] at h
      cases hr : (resolve e c o.type).run P w with
      | ok d w1 => rw [hr] at h; simp [Result.andThen, pure, Sem.run] at h; exact hd d h.1.symm
      | halt x w1 => rw [hr] at h; simp [Result.andThen] at h
    · rw [Oper.semAt_eq _ _ _ fun c e => hc ⟨c, e⟩]; exact h
section
variable {ops : Array Oper} {o : Oper} {rest : List Oper}
theorem tl_nil (h : Q .normal ρ A) : TL P n ops Q [] ρ A := fun g a w ha hs => wpListIn_nil ⟨rfl, ρ, A, ha, hs, h⟩
theorem tl_eq {A' : SP} {l : List Oper} (k : A = A') (h : TL P n ops Q l ρ A') : TL P n ops Q l ρ A := k ▸ h
theorem tl_pre {A' : SP} {l : List Oper} (k : ∀ g w, sat g w A → sat g w A') (h : TL P n ops Q l ρ A') : TL P n ops Q l ρ A := fun g a w ha hs => h g a w ha (k g w hs)
theorem tl_env {l : List Oper} {d : Nat} {v : Value} (h : ρ d = v) (k : TL P n ops Q l (upd ρ d v) A) : TL P n ops Q l ρ A := by
  rw [← env_set h] at k; exact k
theorem tl_have {l : List Oper} {p : Prop} (k : ∀ g w, sat g w A → p) (h : p → TL P n ops Q l ρ A) : TL P n ops Q l ρ A := fun g a w ha hs => h (k g w hs) g a w ha hs
theorem tl_bool {l : List Oper} {d : Nat} {b : Bool} (hv : ρ d = .bool b) (ht : b = true → TL P n ops Q l (upd ρ d (.bool true)) A) (hf : b = false → TL P n ops Q l (upd ρ d (.bool false)) A) : TL P n ops Q l ρ A := by
  cases b with
  | true => exact tl_env hv (ht rfl)
  | false => exact tl_env hv (hf rfl)
theorem tl_skip (hw : wantE n ops ρ o = false) (k : TL P n ops Q rest (put n ρ o.dst undef) A) : TL P n ops Q (o :: rest) ρ A := fun g a w ha hs => by
  unfold wpListIn
  rw [want_eq ha, hw]
  exact ⟨fun _ _ => trivial, k g _ w (ha.put _ _) hs⟩
theorem tl_v {v : Value} (hw : wantE n ops ρ o = true) (h : OpV P n ρ A o v) (k : TL P n ops Q rest (put n ρ o.dst v) A) : TL P n ops Q (o :: rest) ρ A := fun g a w ha hs => by
  unfold wpListIn
  rw [want_eq ha, hw, if_pos rfl]
  refine ⟨fun _ _ => trivial, ?_⟩
  rw [ha.eval, sem_eq (h g w hs) (by simp)]
  exact k g _ w (ha.put _ _) hs
theorem tlm {d : Nat} {ty : TypeId} {pos : String} {after : Array Edge} {gd : Option (Nat × Bool)} {x : Operand} {v : Value} (k : TL P n ops Q rest (put n ρ (some d) v) A) (h : ev n ρ x = v := by conv => lhs; whnf) (hw : wantE n ops ρ ⟨some d, .move x, ty, pos, after, gd⟩ = true := by rfl) : TL P n ops Q (⟨some d, .move x, ty, pos, after, gd⟩ :: rest) ρ A := tl_v hw (o_move h) k
theorem tla {d : Nat} {ty : TypeId} {pos : String} {after : Array Edge} {gd : Option (Nat × Bool)} {x : Operand} {v : Value} (k : TL P n ops Q rest (put n ρ (some d) v) A) (h : ev n ρ x = v := by conv => lhs; whnf) (hw : wantE n ops ρ ⟨some d, .assign x, ty, pos, after, gd⟩ = true := by rfl) : TL P n ops Q (⟨some d, .assign x, ty, pos, after, gd⟩ :: rest) ρ A := tl_v hw (o_assign h) k
theorem tl_x {R : Value → SP → Prop} (hw : wantE n ops ρ o = true) (h : OpX P n ρ A o R) (k : ∀ v B, R v B → TL P n ops Q rest (put n ρ o.dst v) B) : TL P n ops Q (o :: rest) ρ A := fun g a w ha hs => by
  unfold wpListIn
  rw [want_eq ha, hw, if_pos rfl]
  refine ⟨fun _ _ => trivial, ?_⟩
  obtain ⟨v, w', B, hr, hb, hR⟩ := h g w hs
  rw [ha.eval, sem_eq hr (by simp)]
  exact k v B hR g _ w' (ha.put _ _) hb
theorem tl_u {B : SP} (hw : wantE n ops ρ o = true) (h : OpU P n ρ A o B) (k : TL P n ops Q rest (put n ρ o.dst undef) B) : TL P n ops Q (o :: rest) ρ A := fun g a w ha hs => by
  unfold wpListIn
  rw [want_eq ha, hw, if_pos rfl]
  refine ⟨fun _ _ => trivial, ?_⟩
  obtain ⟨w', hr, hb⟩ := h g w hs
  rw [ha.eval, sem_eq hr (by simp)]
  exact k g _ w' (ha.put _ _) hb
theorem tl_c {R : Value → SP → Prop} (hw : wantE n ops ρ o = true) (h : OpC P n ρ A o R) (k : ∀ v B, R v B → TL P n ops Q rest (put n ρ o.dst v) B) : TL P n ops Q (o :: rest) ρ A := fun g a w ha hs => by
  unfold wpListIn
  rw [want_eq ha, hw, if_pos rfl]
  refine ⟨fun _ _ => trivial, ?_⟩
  obtain ⟨f, args, w', hr, hc⟩ := h g w hs
  rw [ha.eval, sem_eq hr (by simp)]
  refine ⟨fun h => (by cases h), ?_⟩
  have hc' : CallsIn Fence.wide (0 - 1) P f args w' fun e w'' => ∃ v B, e = .returned v ∧ R v B ∧ sat g w'' B := callsIn_wide.2 hc
  refine CallsIn.mono (show CallsIn (Fc μ) (0 - 1) P f args w' _ from hc') fun e w'' ⟨v, B, he, hR, hb⟩ => ?_
  subst he
  exact k v B hR g _ w'' (ha.put _ _) hb
/-- A call of yield. -/
theorem tl_y {R : Value → SP → Prop} {x : Operand} {l : Nat} {args : Array Operand} {tys : Array TypeId} {vs : List Value} {dst : Option Tmp} {ty : TypeId} {pos : String} {after : Array Edge} {gd : Option (Nat × Bool)}
    (hw : wantE n ops ρ ⟨dst, .call { callee := .value x, args := args, argTypes := tys }, ty, pos, after, gd⟩ = true) (hx : ev n ρ x = .func (.yield l) #[] #[]) (hv : args.toList.map (ev n ρ) = vs) (h : Yd P l vs.toArray A R)
    (k : ∀ v B, R v B → TL P n ops Q rest (put n ρ dst v) B) : TL P n ops Q (⟨dst, .call { callee := .value x, args := args, argTypes := tys }, ty, pos, after, gd⟩ :: rest) ρ A := fun g a w ha hs => by
  unfold wpListIn
  rw [want_eq ha, hw, if_pos rfl]
  refine ⟨fun _ _ => trivial, ?_⟩
  obtain ⟨f, tmps, assign, body, hy, hr⟩ := h g w hs
  have he : args.map (ev n ρ) = vs.toArray := Array.ext' (by rw [Array.toList_map, hv])
  have hex : (execOp (ev n ρ) ⟨dst, .call { callee := .value x, args := args, argTypes := tys }, ty, pos, after, gd⟩).run P w = .ok (.round l f tmps assign body) w := by
    simp only [execOp, resolve, hx, Deferred.ofValue, he]
    rw [run_bind (w' := w) (a := ⟨.fn (.yield l) #[], #[] ++ vs.toArray⟩) (by rfl)]
    simpa [invoke] using hy
  rw [ha.eval, sem_eq hex (by simp)]
  refine ⟨fun h => (by cases h), ?_⟩; refine RoundIn.mono (show RoundIn (Fc μ) (0 - 1) P l f tmps assign body w _ from hr) fun e w'' ⟨v, B, he, hR, hb⟩ => ?_
  subst he
  exact k v B hR g _ w'' (ha.put _ _) hb
theorem tc_reg {id : Nat} {l : List Oper} (h : TL P n l.toArray Q l ρ A) : TC P n (.region id l.toArray false) Q ρ A := fun g a w ha hs => wpIn_region_lit (h g a w ha hs)
end
end
/-! ## Functions -/
/-- The marks' blocks. -/
def Mk : List Nat → SP
  | [] => emp
  | r :: rs => Mk rs * pt r mkO
def retW (P : Program) (n : Nat) (fn : Func) (Q : Value → SP → Prop) : Post
  | .ret, ρ, A | .normal, ρ, A => ∃ rs B, mks (ρ n) = rs ∧ (∀ g w, sat g w A → sat g w (B * Mk rs)) ∧ ∃ v A', Res P n fn ρ B v ∧ (∀ g w, sat g w B → sat g w A') ∧ Q v A'
  | _, _, _ => False
theorem leaves_mk {P : Program} {fn : Func} {tmps : Array Value} {R : Ending → World → Prop} {g : Gh} {B : SP} : ∀ (rs : List Nat) (w : World), sat g w (B * Mk rs) →
    (∀ w, sat g w B → ∃ v, (results fn tmps).run P w = .ok v w ∧ R (.returned v) w) → LeavesInM Fence.wide 0 P fn tmps R (rs.map mark) .returning w
  | [], w, hs, h => h w hs.left
  | r :: rs, w, hs, h => by
    have hs' : sat g w (B * Mk rs * pt r mkO) := by rw [star_assoc]; exact hs
    have hr : w.heap[r]? = some mkO := has_here g w hs'
    refine ⟨by simp, .inl ⟨r, _, rfl, run_takeDeferred hr, leaves_mk rs _ ?_ h⟩⟩
    have hu : Upd (B * Mk rs * pt r mkO) r mkO (.deferred none) (B * Mk rs * pt r (.deferred none)) := upd_here
    have := hu.sat hs' (w' := w.putObj r (.deferred none)) (fun k => by
      by_cases hk : k = r
      · subst hk; rw [if_pos rfl]; exact World.putObj_heap_same (Array.getElem?_eq_some_iff.1 hr).1
      · rw [if_neg hk]; exact World.putObj_heap_other hk) rfl rfl rfl
    exact this.left
instance plainM : Rm := ⟨none⟩
theorem fn_enterW {P : Program} {f : FuncId} {fn : Func} {c : Code} {args : List Value} {A : SP} {Q : Value → SP → Prop} {n : Nat} (hf : P.funcs[f]? = some fn) (hb : fn.body = some c)
    (hn : fn.ntmps = n) (hle : args.length ≤ n) (h : @TC ⟨none⟩ P n c (retW P n fn Q) (argEnv und 0 args) A) : Fn P f args.toArray A Q := fun g w hs => by
  refine callsIn_wide.1 (callsIn_of_wp_marks (n := 0) hf hb trivial (wpIn_mono (h g _ w ?_ hs) ?_))
  · have hsz : (args.toArray ++ Array.replicate (fn.ntmps - args.toArray.size) undef).size = n := by simp; omega
    have key : ∀ (l : List Value) (ρ : Env) (k t : Nat), argEnv ρ k l t = if k ≤ t ∧ t < k + l.length then l.getD (t - k) undef else ρ t := by
      intro l
      induction l with
      | nil => intro ρ k t; simp only [argEnv, List.length_nil]; rw [if_neg (by omega)]
      | cons v l ih =>
        intro ρ k t
        simp only [argEnv, ih, List.length_cons]
        by_cases h1 : k + 1 ≤ t ∧ t < k + 1 + l.length
        · rw [if_pos h1, if_pos (by omega)]
          have : t - k = (t - (k + 1)) + 1 := by omega
          rw [this]; simp
        · rw [if_neg h1]
          by_cases h2 : t = k
          · subst h2
            rw [if_pos (by omega)]
            simp [upd]
          · rw [if_neg (by omega)]
            have : Nat.beq t k = false := by
              cases hb : Nat.beq t k with
              | false => rfl
              | true => exact absurd (Nat.eq_of_beq_eq_true hb) h2
            simp [upd, this]
    refine ⟨?_, hsz, fun t ht => ?_⟩
    · rw [key, if_neg (by omega)]; rfl
    · rw [key]
      rw [Array.getD_eq_getD_getElem?, Array.getElem?_append]
      by_cases h1 : t < args.length
      · rw [if_pos (by simpa using h1), if_pos (by omega)]
        simp
      · rw [if_neg (by simpa using h1), if_neg (by omega)]
        simp only [List.size_toArray] at *
        rw [Array.getElem?_replicate]
        split <;> simp [und]
  · rintro e a' w' ⟨_, ρ', A', ha', hs', hq⟩
    have fin : ∀ a' w', Agr n ρ' a' → sat g w' A' → retW P n fn Q .ret ρ' A' → LeavesInM Fence.wide 0 P fn a'.tmps (fun e w' => ∃ v B, e = .returned v ∧ Q v B ∧ sat g w' B) a'.defers .returning w' := by
      intro a' w' ha' hs' hq
      obtain ⟨rs, B, hm, hB, v, A2, hr, hi, hQ⟩ := hq
      rw [ha'.df, hm]
      exact leaves_mk rs w' (hB g w' hs') fun w hw => ⟨v, by have := hr g _ w ha'.plain hw; exact this, v, A2, rfl, hQ, hi g w hw⟩
    cases e with
    | normal => exact fin a' w' ha' hs' hq
    | ret => exact fin a' w' ha' hs' hq
    | _ => exact hq.elim
/-! ## Rounds -/
/-- A loop's record: its state, the jump that waits, the frame that it copies. -/
def Lp (l : Nat) (st : LoopState) (pe : Option Code) (n : Nat) (ρ : Env) (ps : Array Tmp) (assign body : Code) : SP :=
  ex fun r : Loop => fun h => (r.state = st ∧ r.pending = pe ∧ r.params = ps ∧ r.assign = assign ∧ r.body = body ∧ Vl.Agr n ρ { tmps := r.tmps, defers := [] }) ∧ pt l (.loop r) h
theorem lp_iff {l n : Nat} {st : LoopState} {pe : Option Code} {ρ : Env} {ps : Array Tmp} {assign body : Code} {R : SP} {g : Gh} {w : World} : sat g w (R * Lp l st pe n ρ ps assign body) ↔
    ∃ r : Loop, (r.state = st ∧ r.pending = pe ∧ r.params = ps ∧ r.assign = assign ∧ r.body = body ∧ Vl.Agr n ρ { tmps := r.tmps, defers := [] }) ∧ sat g w (R * pt l (.loop r)) := by
  constructor
  · intro hs
    obtain ⟨_, ⟨x, y, hd, rfl, ha, r, hr, hb⟩, hx⟩ := hs.hp
    exact ⟨r, hr, hs.os, hs.tape, hs.out, _, ⟨x, y, hd, rfl, ha, hb⟩, hx⟩
  · rintro ⟨r, hr, hs⟩
    exact hs.mono fun h ⟨x, y, hd, e, ha, hb⟩ => ⟨x, y, hd, e, ha, r, hr, hb⟩
theorem sat_putObj {R : SP} {l : Nat} {o o' : Obj} {g : Gh} {w : World} (hs : sat g w (R * pt l o)) : sat g (w.putObj l o') (R * pt l o') := by
  have hr : w.heap[l]? = some o := has_here g w hs
  exact (upd_here (R := R) (b := l) (o := o) (o' := o')).sat hs (w' := w.putObj l o') (fun k => by
    by_cases hk : k = l
    · subst hk; rw [if_pos rfl]; exact World.putObj_heap_same (Array.getElem?_eq_some_iff.1 hr).1
    · rw [if_neg hk]; exact World.putObj_heap_other hk) rfl rfl rfl
/-- The frame of a round: yield's arguments in the parameters. -/
def putL (n : Nat) : Env → List Tmp → List Value → Env
  | ρ, t :: ts, v :: vs => putL n (put n ρ (some t) v) ts vs
  | ρ, _, _ => ρ
theorem putL_agr {n : Nat} : ∀ (ts : List Tmp) (vs : List Value) (ρ : Env) (a : Act), Agr n ρ a → Agr n (putL n ρ ts vs) { a with tmps := (ts.zip vs).foldl (fun t (p : Tmp × Value) => t.setIfInBounds p.1 p.2) a.tmps }
  | [], _, _, a, h => by cases a; exact h
  | _ :: _, [], _, a, h => by cases a; exact h
  | t :: ts, v :: vs, ρ, a, h => putL_agr ts vs _ _ (h.put (some t) v)
/-- How a round may be left: by what its body says at its end. -/
def rndQ (l n : Nat) (ρ0 : Env) (ps : Array Tmp) (assign body : Code) (Q : Value → Option Code → SP → Prop) : Post
  | .normal, _, A => ∃ B, (∀ g w, sat g w A → sat g w (B * Lp l .busy none n ρ0 ps assign body)) ∧ Q (.bool true) none B
  | .ret, _, A => ∃ B, (∀ g w, sat g w A → sat g w (B * Lp l .busy none n ρ0 ps assign body)) ∧ Q (.bool false) (some .ret) B
  | .exit id, _, A => ∃ B, (∀ g w, sat g w A → sat g w (B * Lp l .busy none n ρ0 ps assign body)) ∧ Q (.bool false) (some (.exit id)) B
  | _, _, _ => False
def stOf : Option Code → LoopState
  | none => .ready
  | some _ => .done
/-- **A round, out of its body's walk.** -/
theorem yd_body {P : Program} {l n : Nat} {ρ : Env} {ps : Array Tmp} {assign body : Code} {A : SP} {vs : List Value} {Q : Value → Option Code → SP → Prop} (hn : vs.length = ps.size) (hm : mks (ρ n) = [])
    (h : @TC ⟨some l⟩ P n assign (fun e ρ' A' => match e with
      | .normal => ∃ B, (∀ g w, sat g w A' → sat g w (B * Lp l .ready none n ρ ps assign body)) ∧ @TC ⟨some l⟩ P n body (rndQ l n ρ ps assign body Q) ρ' (B * Lp l .busy none n ρ ps assign body)
      | _ => False) (putL n ρ ps.toList vs) (A * Lp l .ready none n ρ ps assign body)) :
    Yd P l vs.toArray (A * Lp l .ready none n ρ ps assign body) (fun v B => ∃ C j, Q v j C ∧ B = C * Lp l (stOf j) j n ρ ps assign body) := fun g w hs => by
  obtain ⟨r, ⟨h1, h2, h3, h4, h5, h6⟩, hs'⟩ := lp_iff.1 hs
  have hl : w.heap[l]? = some (.loop r) := has_here g w hs'
  refine ⟨r.fn, (r.params.zip vs.toArray).foldl (fun tmps (x : Tmp × Value) => tmps.setIfInBounds x.1 x.2) r.tmps, assign, body, ?_, ?_⟩
  · have := run_yield (P := P) (args := vs.toArray) hl (by simp [h3, hn])
    rw [h4, h5] at this; exact this
  have ha0 : Agr n ρ { tmps := r.tmps, defers := [] } := ⟨by rw [hm]; rfl, h6.sz, h6.ev⟩
  have ha := putL_agr ps.toList vs ρ _ ha0
  have e0 : ((r.params.zip vs.toArray).foldl (fun tmps (x : Tmp × Value) => tmps.setIfInBounds x.1 x.2) r.tmps) = ((ps.toList.zip vs).foldl (fun t (p : Tmp × Value) => t.setIfInBounds p.1 p.2) r.tmps) := by
    rw [h3, ← Array.foldl_toList, Array.toList_zip]
  refine roundIn_of_wpIn (F := Fence.wide) trivial ?_
  show assign.wpIn (Fc ⟨some l⟩) 0 P _ { tmps := (r.params.zip vs.toArray).foldl (fun tmps (x : Tmp × Value) => tmps.setIfInBounds x.1 x.2) r.tmps, defers := [] } w
  rw [e0]
  refine wpIn_mono (h g _ w ha hs) ?_; rintro e a1 w1 ⟨_, ρ1, A1, ha1, hs1, hq⟩
  cases e with
  | normal =>
    obtain ⟨B, hB, hbody⟩ := hq
    have hs1 := hB g w1 hs1
    obtain ⟨r1, ⟨g1, g2, g3, g4, g5, g6⟩, hs1'⟩ := lp_iff.1 hs1
    have hl1 : w1.heap[l]? = some (.loop r1) := has_here g w1 hs1'
    refine ⟨_, run_beginRound hl1 g1, ?_⟩
    have hs2 := sat_putObj (o' := .loop { r1 with state := .busy }) hs1'
    have hs3 : sat g (w1.putObj l (.loop { r1 with state := .busy })) (B * Lp l .busy none n ρ ps assign body) := lp_iff.2 ⟨{ r1 with state := .busy }, ⟨rfl, g2, g3, g4, g5, g6⟩, hs2⟩
    refine wpIn_mono (show body.wpIn (Fc ⟨some l⟩) 0 P _ a1 _ from hbody g a1 _ ha1 hs3) ?_; rintro e a3 w3 ⟨_, ρ3, A3, ha3, hs4, hq3⟩
    have fin : ∀ (jump : Option Code), (∃ C, (∀ g w, sat g w A3 → sat g w (C * Lp l .busy none n ρ ps assign body)) ∧ Q (.bool jump.isNone) jump C) →
        ∃ v w', (Instr.endRound l jump).run P w3 = .ok v w' ∧ ∃ v' B', (Ending.returned v : Ending) = .returned v' ∧ (∃ C j, Q v' j C ∧ B' = C * Lp l (stOf j) j n ρ ps assign body) ∧ sat g w' B' := by
      rintro jump ⟨C, hC, hQ⟩
      have hs4 := hC g w3 hs4
      obtain ⟨r3, ⟨k1, k2, k3, k4, k5, k6⟩, hs5⟩ := lp_iff.1 hs4
      have hl3 : w3.heap[l]? = some (.loop r3) := has_here g w3 hs5
      refine ⟨_, _, run_endRound jump hl3, _, _, rfl, ⟨C, jump, hQ, rfl⟩, ?_⟩; refine lp_iff.2 ⟨{ r3 with state := if jump.isNone then .ready else .done, pending := jump }, ⟨?_, rfl, k3, k4, k5, k6⟩, sat_putObj hs5⟩
      cases jump <;> rfl
    cases e with
    | normal => exact fin none hq3
    | ret => exact fin (some .ret) hq3
    | exit id => exact fin (some (.exit id)) hq3
    | _ => exact hq3.elim
  | _ => exact hq.elim
/-! ## The statement -/
/-- What is asked when the function that was ranged over has returned. -/
def jmpQ (Q : Post) (ρ : Env) (A : SP) : Option Code → Prop
  | none => Q .normal ρ A
  | some .ret => Q .ret ρ A
  | some (.exit id) => Q (.exit id) ρ A
  | _ => False
/-- **for .. := range g { .. }, in a function's own frame.** -/
theorem tc_range {P : Program} {n : Nat} {Q : Post} {ρ : Env} {A : SP} {x : Operand} {ps : Array Tmp} {assign body : Code} {gf : FuncId} {fs cs : List Value} (hx : ev n ρ x = .func (.func gf) fs.toArray cs.toArray) (hb : bodyB P gf = true)
    (h : ∀ r l : Nat, Fn P gf (fs ++ [Value.func (.yield l) #[] #[]] ++ cs).toArray (A * pt r mkO * Lp l .ready none n ρ ps assign body) fun _ B =>
      ∃ st j C, st ≠ .busy ∧ B = C * pt r mkO * Lp l st j n ρ ps assign body ∧ jmpQ Q (upd ρ n (mkv (r :: mks (ρ n)))) (C * pt r mkO) j) : @TC ⟨none⟩ P n (.rangeFunc x ps assign body) Q ρ A := fun g a w ha hs => by
  refine wpIn_rangeFunc fun fn _ => ?_
  obtain ⟨rec, hrec⟩ : ∃ rec : Loop, rec = { state := .ready, pending := none, fn, tmps := a.tmps, params := ps, assign, body, defers := w.heap.size } := ⟨_, rfl⟩
  obtain ⟨W1, hW1⟩ : ∃ W1, (w.alloc (.deferred (some []))).alloc (.loop rec) = W1 := ⟨_, rfl⟩
  have hs1 : sat g W1 (A * pt w.heap.size mkO * Lp (w.heap.size + 1) .ready none n ρ ps assign body) := by
    rw [← hW1]
    have hsz : (w.alloc (.deferred (some []))).heap.size = w.heap.size + 1 := by simp
    have := (hs.alloc (.deferred (some []))).alloc (.loop rec)
    rw [hsz] at this
    exact lp_iff.2 ⟨rec, by rw [hrec]; exact ⟨rfl, rfl, rfl, rfl, rfl, rfl, ha.sz, ha.ev⟩, this⟩
  refine ⟨w.heap.size + 1, [mark w.heap.size], W1, { target := .fn (.func gf) cs.toArray, args := fs.toArray ++ #[.func (.yield (w.heap.size + 1)) #[] #[]] }, W1, gf,
    (fs ++ [Value.func (.yield (w.heap.size + 1)) #[] #[]] ++ cs).toArray, W1, ?_, ?_, fun _ _ => trivial, ?_, fun h => (by cases h), ?_⟩
  · rw [← hW1, hrec]; exact run_enterLoop_outer _ _ _ _ _
  · simp only [resolve, ha.eval, hx]
    simp [Deferred.ofValue, ev, pure, bind, Sem.bind]
  · simp only [invoke]
    rw [run_callFunc hb]; simp
  · have hc := h w.heap.size (w.heap.size + 1) g W1 hs1
    refine CallsIn.mono (show CallsIn (Fc ⟨none⟩) (0 - 1) P gf _ W1 _ from callsIn_wide.2 hc) ?_; rintro e w3 ⟨v, B, rfl, ⟨st, j, C, hst, rfl, hj⟩, hs3⟩
    obtain ⟨r3, ⟨k1, k2, k3, k4, k5, k6⟩, hs5⟩ := lp_iff.1 hs3
    have hl3 : w3.heap[w.heap.size + 1]? = some (.loop r3) := has_here g w3 hs5
    refine ⟨_, _, run_endLoop hl3 (by rw [k1]; exact hst), ?_⟩
    have hs6 := (sat_putObj (o' := .loop { r3 with state := .exhausted }) hs5).left
    have ha6 : Agr n (upd ρ n (mkv (w.heap.size :: mks (ρ n)))) { a with defers := [mark w.heap.size] ++ a.defers } := by
      refine ⟨?_, ha.sz, fun t ht => ?_⟩
      · show [mark w.heap.size] ++ a.defers = _
        have : upd ρ n (mkv (w.heap.size :: mks (ρ n))) n = mkv (w.heap.size :: mks (ρ n)) := by simp [upd]
        rw [this, mks_mkv, ha.df]; rfl
      · have : Nat.beq t n = false := by
          cases hb : Nat.beq t n with
          | false => rfl
          | true => have := Nat.eq_of_beq_eq_true hb; omega
        simp only [upd, this, cond_false]; exact ha.ev t ht
    rw [k2] at hs6 ⊢
    cases j with
    | none => exact ⟨rfl, _, _, ha6, hs6, hj⟩
    | some c =>
      cases c with
      | ret => exact wpIn_ret ⟨rfl, _, _, ha6, hs6, hj⟩
      | exit id => exact wpIn_exit ⟨rfl, _, _, ha6, hs6, hj⟩
      | _ => exact hj.elim
/-! ## Iterators -/
/-- What an iterator promises: it calls yield with val 0, val 1, .. up to N of them, till a round says no. K: what it holds of memory itself; a round leaves alone whatever else there is. -/
def It (P : Program) (gf : FuncId) (fs cs : List Value) (K : SP) (N : Nat) (val : Nat → List Value) : Prop :=
  ∀ (l : Nat) (J : Nat → SP → Prop) (X : SP → Prop) (S0 : SP), J 0 S0 →
    (∀ F i S, i < N → J i S → Yd P l (val i).toArray (F * S) fun v B => ∃ (b : Bool) (S' : SP), v = .bool b ∧ (b = true → J (i + 1) S') ∧ (b = false → X S') ∧ B = F * S') →
    Fn P gf (fs ++ [Value.func (.yield l) #[] #[]] ++ cs).toArray (S0 * K) fun r B => r = .tuple #[] ∧ ((∃ S, J N S ∧ B = S * K) ∨ ∃ S, X S ∧ B = S * K)
section
variable (l n : Nat) (ρ0 : Env) (ps : Array Tmp) (assign body : Code) (F : SP)
def rndI (I1 : SP → Prop) (X : Code → SP → Prop) : Post
  | .normal, _, A => ∃ S, (∀ g w, sat g w A → sat g w (F * S)) ∧ I1 S
  | .ret, _, A => ∃ S, (∀ g w, sat g w A → sat g w (F * S)) ∧ X .ret S
  | .exit id, _, A => ∃ S, (∀ g w, sat g w A → sat g w (F * S)) ∧ X (.exit id) S
  | _, _, _ => False
def asgI (P : Program) (I1 : SP → Prop) (X : Code → SP → Prop) : Post
  | .normal, ρ, A => ∃ S, (∀ g w, sat g w A → sat g w (F * S)) ∧ ∀ F, @TC ⟨some l⟩ P n body (rndI F I1 X) ρ (F * S)
  | _, _, _ => False
end
/-- **for .. := range g { .. }, over an iterator that has its contract.** -/
theorem tc_rangeI {P : Program} {n N : Nat} {Q : Post} {ρ : Env} {A A0 K : SP} {x : Operand} {ps : Array Tmp} {assign body : Code} {gf : FuncId} {fs cs : List Value} {val : Nat → List Value} (I : Nat → SP → Prop) (X : Code → SP → Prop)
    (hx : ev n ρ x = .func (.func gf) fs.toArray cs.toArray) (hb : bodyB P gf = true) (hit : It P gf fs cs K N val) (hps : ∀ i, (val i).length = ps.size) (hm : mks (ρ n) = []) (hA : ∀ g w, sat g w A → sat g w (A0 * K)) (h0 : I 0 A0)
    (round : ∀ l F i S, i < N → I i S → @TC ⟨some l⟩ P n assign (asgI l n body F P (I (i + 1)) X) (putL n ρ ps.toList (val i)) (F * S))
    (done : ∀ r S, I N S → Q .normal (upd ρ n (mkv [r])) (S * K * pt r mkO)) (jump : ∀ r j S, X j S → jmpQ Q (upd ρ n (mkv [r])) (S * K * pt r mkO) (some j)) : @TC ⟨none⟩ P n (.rangeFunc x ps assign body) Q ρ A := by
  refine tc_pre hA (tc_range hx hb fun r l => ?_)
  rw [hm]
  have hY := hit l (fun i S => ∃ S1, S = S1 * pt r mkO * Lp l .ready none n ρ ps assign body ∧ I i S1) (fun S => ∃ j S1, S = S1 * pt r mkO * Lp l .done (some j) n ρ ps assign body ∧ X j S1) _ ⟨A0, rfl, h0⟩ ?_
  · refine Fn.mono (hY.pre fun _ _ h => (show A0 * K * pt r mkO * Lp l .ready none n ρ ps assign body = A0 * pt r mkO * Lp l .ready none n ρ ps assign body * K by ac_rfl) ▸ h) ?_
    rintro v B ⟨_, ⟨_, ⟨S1, rfl, hI⟩, rfl⟩ | ⟨_, ⟨j, S1, rfl, hX⟩, rfl⟩⟩
    · exact ⟨.ready, none, S1 * K, by simp, by ac_rfl, done r S1 hI⟩
    · exact ⟨.done, some j, S1 * K, by simp, by ac_rfl, jump r j S1 hX⟩
  · rintro F i _ hi ⟨S1, rfl, hI⟩
    have e1 : ∀ (S L : SP), F * S * pt r mkO * L = F * pt r mkO * L * S := fun S L => by ac_rfl
    have hb := yd_body (P := P) (l := l) (n := n) (ρ := ρ) (ps := ps) (assign := assign) (body := body) (A := F * S1 * pt r mkO) (vs := val i)
      (Q := fun v j C => ∃ S2, C = F * S2 * pt r mkO ∧ ((j = none ∧ v = .bool true ∧ I (i + 1) S2) ∨ ∃ c, j = some c ∧ v = .bool false ∧ X c S2)) (hps i) hm
      (by
        rw [e1]
        refine tc_imp (round l (F * pt r mkO * Lp l .ready none n ρ ps assign body) i S1 hi hI) fun e ρ' A' hq => ?_
        cases e with
        | normal =>
          obtain ⟨S, hS, hbody⟩ := hq
          refine ⟨F * S * pt r mkO, fun g w h => by rw [e1]; exact hS g w h, ?_⟩
          rw [e1]
          refine tc_imp (hbody (F * pt r mkO * Lp l .busy none n ρ ps assign body)) fun e ρ2 A2 hq => ?_
          cases e with
          | normal => obtain ⟨S2, h2, hI2⟩ := hq; exact ⟨F * S2 * pt r mkO, fun g w h => by rw [e1]; exact h2 g w h, S2, rfl, .inl ⟨rfl, rfl, hI2⟩⟩
          | ret => obtain ⟨S2, h2, hI2⟩ := hq; exact ⟨F * S2 * pt r mkO, fun g w h => by rw [e1]; exact h2 g w h, S2, rfl, .inr ⟨_, rfl, rfl, hI2⟩⟩
          | exit id => obtain ⟨S2, h2, hI2⟩ := hq; exact ⟨F * S2 * pt r mkO, fun g w h => by rw [e1]; exact h2 g w h, S2, rfl, .inr ⟨_, rfl, rfl, hI2⟩⟩
          | _ => exact hq.elim
        | _ => exact hq.elim)
    refine (hb.pre fun _ _ h => (show F * (S1 * pt r mkO * Lp l .ready none n ρ ps assign body) = F * S1 * pt r mkO * Lp l .ready none n ρ ps assign body by ac_rfl) ▸ h).mono ?_; rintro v B ⟨C, j, ⟨S2, rfl, ⟨rfl, rfl, hI2⟩ | ⟨c, rfl, rfl, hX⟩⟩, rfl⟩
    · exact ⟨true, _, rfl, fun _ => ⟨S2, rfl, hI2⟩, fun e => (by cases e), by show _ = F * (S2 * pt r mkO * Lp l (stOf none) none n ρ ps assign body); ac_rfl⟩
    · exact ⟨false, _, rfl, fun e => (by cases e), fun _ => ⟨c, S2, rfl, hX⟩, by show _ = F * (S2 * pt r mkO * Lp l (stOf (some c)) (some c) n ρ ps assign body); ac_rfl⟩
/-- What a round of the caller's does, in the iterator's own order of things. -/
theorem yd_b {P : Program} {l : Nat} {args : Array Value} {J X : SP → Prop} {F S A' : SP} {G : SP → SP} (h : Yd P l args (F * S) fun v B => ∃ (b : Bool) (S' : SP), v = .bool b ∧ (b = true → J S') ∧ (b = false → X S') ∧ B = F * S') (hA : A' = F * S) (hk : ∀ S : SP, F * S = G S) :
    Yd P l args A' fun v B => ∃ (b : Bool) (S' : SP), v = .bool b ∧ (b = true → J S') ∧ (b = false → X S') ∧ B = G S' := by
  subst hA
  refine h.mono fun v B ⟨b, S', e1, e2, e3, e4⟩ => ⟨b, S', e1, e2, e3, ?_⟩
  rw [e4, hk]
theorem jmp_r {Q : Post} {ρ : Env} {A : SP} (h : Q .ret ρ A) : jmpQ Q ρ A (some .ret) := h
theorem mk1 {B : SP} {r : Nat} {g : Gh} {w : World} (h : sat g w (B * pt r mkO)) : sat g w (B * Mk [r]) := by
  show sat g w (B * (emp * pt r mkO)); rw [emp_star]; exact h
theorem mk0 {B : SP} {g : Gh} {w : World} (h : sat g w B) : sat g w (B * Mk []) := by
  show sat g w (B * emp); rw [star_emp]; exact h
end Go.Vl.Rg

set_option linter.unusedVariables false
set_option linter.unusedSimpArgs false
namespace Go.Vl
open Go Go.Proofs
theorem star3 (S a b c : SP) : S * (a * b * c) = S * a * b * c := by rw [← star_assoc, ← star_assoc]
theorem star2' (S a b : SP) : S * (a * b) = S * a * b := (star_assoc _ _ _).symm
attribute [local irreducible] Sl pt ro Dev imgS
namespace Rg
theorem units1_f {at_ n l N b1 b2 b3 : Nat} {J : Nat → SP → Prop} {X : SP → Prop} {S0 : SP} (h1 : 1 ≤ n) (h2 : at_ + n ≤ 9223372036854775807) (hN : N = ((at_ + n - 1) / 8 - at_ / 8 + 1)) (h0 : J 0 S0) (hY : ∀ F i S, i < N → J i S → Yd Tryz.prog l #[.int .i64 ((at_ / 8 + i : Nat) : Int)] (F * S) (fun v B => ∃ (b : Bool) (S' : SP), v = .bool b ∧ (b = true → J (i + 1) S') ∧ (b = false → X S') ∧ B = F * S')) :
    Fn Tryz.prog 139 #[.func (.yield l) #[] #[], .pointer (some ⟨b1, 0, none⟩), .pointer (some ⟨b2, 0, none⟩), .pointer (some ⟨b3, 0, none⟩)] (S0 * pt b1 (cl [.int .i64 (at_ : Int)] 3) * pt b2 (cl [.int .i64 (n : Int)] 3) * pt b3 (cl [.int .i64 8] 3)) (fun r B => r = .tuple #[] ∧ ((∃ S, J N S ∧ B = S * pt b1 (cl [.int .i64 (at_ : Int)] 3) * pt b2 (cl [.int .i64 (n : Int)] 3) * pt b3 (cl [.int .i64 8] 3)) ∨ ∃ S, X S ∧ B = S * pt b1 (cl [.int .i64 (at_ : Int)] 3) * pt b2 (cl [.int .i64 (n : Int)] 3) * pt b3 (cl [.int .i64 8] 3))) := by
  refine fn_enterW (args := [.func (.yield l) #[] #[], .pointer (some ⟨b1, 0, none⟩), .pointer (some ⟨b2, 0, none⟩), .pointer (some ⟨b3, 0, none⟩)]) Tryz.func139 rfl Tryz.ntmps139 (by simp) ?_; refine tc_seq ?_; refine tc_seq ?_; refine tc_reg ?_; refine tl_v rfl (by first | exact o_load p3 rfl (by repeat (first | with_reducible exact has_here | with_reducible exact has_pt | apply has_left)) rfl | exact o_loadC p3 rfl (by assumption)) ?_; refine tl_v rfl (o_lss rfl rfl) ?_; refine tlm ?_; refine tl_bool (d := 8) rfl (fun h => ?_) (fun h => ?_)
  · (exfalso; first | (revert h; simp; done) | (simp at h; done) | (revert h; simp; omega) | (simp at h; omega) | omega)
  · try simp only [lv1, lv2, lv3, lv4, lv5, lv6, Bool.not_true, Bool.not_false] at h
    refine tl_v rfl (by first | exact o_load p3 rfl (by repeat (first | with_reducible exact has_here | with_reducible exact has_pt | apply has_left)) rfl | exact o_loadC p3 rfl (by assumption)) ?_; refine tl_v rfl (o_lss rfl rfl) ?_; refine tl_v rfl (o_pick_f rfl (by conv => lhs; whnf)) ?_; refine tlm ?_; refine tl_bool (d := 12) rfl (fun h => ?_) (fun h => ?_)
    · (exfalso; first | (revert h; simp; done) | (simp at h; done) | (revert h; simp; omega) | (simp at h; omega) | omega)
    · try simp only [lv1, lv2, lv3, lv4, lv5, lv6, Bool.not_true, Bool.not_false] at h
      refine tl_v rfl (by first | exact o_load p3 rfl (by repeat (first | with_reducible exact has_here | with_reducible exact has_pt | apply has_left)) rfl | exact o_loadC p3 rfl (by assumption)) ?_; refine tl_v rfl (by first | exact o_load p3 rfl (by repeat (first | with_reducible exact has_here | with_reducible exact has_pt | apply has_left)) rfl | exact o_loadC p3 rfl (by assumption)) ?_; refine tl_v rfl (by first | exact o_subI rfl rfl (by omega) | exact o_sub rfl rfl) ?_; refine tl_v rfl (o_gtr rfl rfl) ?_; refine tl_v rfl (o_pick_f rfl (by conv => lhs; whnf)) ?_; refine tl_nil ?_; refine q_then_n ?_; refine tc_cond rfl (fun h => ?_) (fun h => ?_)
      · (exfalso; first | (revert h; simp; done) | (simp at h; done) | (revert h; simp; omega) | (simp at h; omega) | omega)
      · try simp only [lv1, lv2, lv3, lv4, lv5, lv6, Bool.not_true, Bool.not_false] at h
        refine tc_skip ?_; refine q_then_n ?_; refine tc_seq ?_; refine tc_reg ?_; refine tl_v rfl (by first | exact o_load p3 rfl (by repeat (first | with_reducible exact has_here | with_reducible exact has_pt | apply has_left)) rfl | exact o_loadC p3 rfl (by assumption)) ?_; refine tl_v rfl (by first | exact o_load p3 rfl (by repeat (first | with_reducible exact has_here | with_reducible exact has_pt | apply has_left)) rfl | exact o_loadC p3 rfl (by assumption)) ?_; refine tl_v rfl (o_quoN (b := 8) rfl rfl (by omega)) ?_; refine tla ?_; refine tl_nil ?_; refine q_then_n ?_; refine tc_block ?_; refine tc_loop (fun kk ρ BB => ∃ (k : Nat) (S : SP), (k ≤ N) ∧ (J k S) ∧ kk = N - k ∧ ρ 5 = .int .i64 ((at_ / 8 + k : Nat) : Int) ∧ ρ 35 = undef ∧ ρ 0 = .func (.yield l) #[] #[] ∧ ρ 1 = .pointer (some ⟨b1, 0, none⟩) ∧ ρ 2 = .pointer (some ⟨b2, 0, none⟩) ∧ ρ 3 = .pointer (some ⟨b3, 0, none⟩) ∧ BB = S * pt b1 (cl [.int .i64 (at_ : Int)] 3) * pt b2 (cl [.int .i64 (n : Int)] 3) * pt b3 (cl [.int .i64 8] 3)) (m := N - (0)) ?_ ?_
        · exact ⟨0, S0, by omega, h0, rfl, rfl, rfl, rfl, rfl, rfl, rfl, rfl⟩
        · intro k ρ B hI
          obtain ⟨k, S, hp0, hp1, hkk1, hE5, hE35, hE0, hE1, hE2, hE3, rfl⟩ := hI
          refine tc_env (d := 5) hE5 ?_; refine tc_env (d := 35) hE35 ?_; refine tc_env (d := 0) hE0 ?_; refine tc_env (d := 1) hE1 ?_; refine tc_env (d := 2) hE2 ?_; refine tc_env (d := 3) hE3 ?_
          clear hE5 hE35 hE0 hE1 hE2 hE3
          refine tc_seq ?_; refine tc_seq ?_; refine tc_reg ?_; refine tlm ?_; refine tl_v rfl (by first | exact o_load p3 rfl (by repeat (first | with_reducible exact has_here | with_reducible exact has_pt | apply has_left)) rfl | exact o_loadC p3 rfl (by assumption)) ?_; refine tl_v rfl (by first | exact o_load p3 rfl (by repeat (first | with_reducible exact has_here | with_reducible exact has_pt | apply has_left)) rfl | exact o_loadC p3 rfl (by assumption)) ?_; refine tl_v rfl (by first | exact o_addI rfl rfl (by omega) | exact o_add rfl rfl) ?_; refine tl_v rfl (by first | exact o_subI rfl rfl (by omega) | exact o_sub rfl rfl) ?_; refine tl_v rfl (by first | exact o_load p3 rfl (by repeat (first | with_reducible exact has_here | with_reducible exact has_pt | apply has_left)) rfl | exact o_loadC p3 rfl (by assumption)) ?_; refine tl_v rfl (o_quoI rfl rfl (by omega)) ?_; refine tl_v rfl (o_leq rfl rfl) ?_; refine tl_nil ?_; refine q_then_n ?_; refine tc_cond rfl (fun h => ?_) (fun h => ?_)
          · try simp only [lv1, lv2, lv3, lv4, lv5, lv6, Bool.not_true, Bool.not_false] at h
            refine tc_skip ?_; refine q_then_n ?_; refine tc_seq ?_; refine tc_block ?_; refine tc_seq ?_; refine tc_reg ?_; refine tlm ?_; refine tlm ?_; refine tl_y rfl rfl rfl (yd_b (F := pt b1 (cl [.int .i64 (at_ : Int)] 3) * pt b2 (cl [.int .i64 (n : Int)] 3) * pt b3 (cl [.int .i64 8] 3)) (G := fun S' => S' * pt b1 (cl [.int .i64 (at_ : Int)] 3) * pt b2 (cl [.int .i64 (n : Int)] 3) * pt b3 (cl [.int .i64 8] 3)) (hY _ k S (by omega) hp1) (by ac_rfl) (fun S' => by ac_rfl)) ?_; rintro _ _ ⟨b33, S2, rfl, hT, hF, rfl⟩; refine tl_v rfl (o_not rfl) ?_; refine tl_nil ?_; refine q_then_n ?_; refine tc_cond rfl (fun h => ?_) (fun h => ?_)
            · have hb : b33 = false := by simpa using h
              subst hb
              refine tc_ret ?_; refine q_block_r (q_then_r (q_then_r (q_block_r ?_))); exact ⟨[], _, rfl, fun _ _ h => mk0 h, .tuple #[], S2 * pt b1 (cl [.int .i64 (at_ : Int)] 3) * pt b2 (cl [.int .i64 (n : Int)] 3) * pt b3 (cl [.int .i64 8] 3), res0 rfl, fun _ _ h => h, rfl, .inr ⟨S2, hF rfl, rfl⟩⟩
            · have hb : b33 = true := by simpa using h
              subst hb
              refine tc_skip ?_; refine q_block_n (q_then_n ?_); refine tc_reg ?_; refine tlm ?_; refine tl_v rfl (by first | exact o_addI rfl rfl (by omega) | exact o_add rfl rfl) ?_; refine tla ?_; refine tl_nil ?_; refine q_then_n ?_; exact ⟨_, by omega, k + 1, _, by omega, hT rfl, rfl, rfl, rfl, rfl, rfl, rfl, rfl, rfl⟩
          · try simp only [lv1, lv2, lv3, lv4, lv5, lv6, Bool.not_true, Bool.not_false] at h
            refine tc_exit ?_; refine q_then_e (q_then_e (q_block_x ?_))
            obtain rfl : k = N := by omega
            exact ⟨[], _, rfl, fun _ _ h => mk0 h, .tuple #[], S * pt b1 (cl [.int .i64 (at_ : Int)] 3) * pt b2 (cl [.int .i64 (n : Int)] 3) * pt b3 (cl [.int .i64 8] 3), res0 rfl, fun _ _ h => h, rfl, .inl ⟨S, hp1, rfl⟩⟩
end Rg
theorem units_it {at_ n N b1 b2 b3 : Nat} (h1 : 1 ≤ n) (h2 : at_ + n ≤ 9223372036854775807) (hN : N = ((at_ + n - 1) / 8 - at_ / 8 + 1)) :
    Rg.It Tryz.prog 139 [] [.pointer (some ⟨b1, 0, none⟩), .pointer (some ⟨b2, 0, none⟩), .pointer (some ⟨b3, 0, none⟩)] (pt b1 (cl [.int .i64 (at_ : Int)] 3) * pt b2 (cl [.int .i64 (n : Int)] 3) * pt b3 (cl [.int .i64 8] 3)) N (fun i => [.int .i64 ((at_ / 8 + i : Nat) : Int)]) := fun l J X S0 h0 hY => by
  have hk : ∀ S : SP, S * (pt b1 (cl [.int .i64 (at_ : Int)] 3) * pt b2 (cl [.int .i64 (n : Int)] 3) * pt b3 (cl [.int .i64 8] 3)) = S * pt b1 (cl [.int .i64 (at_ : Int)] 3) * pt b2 (cl [.int .i64 (n : Int)] 3) * pt b3 (cl [.int .i64 8] 3) := fun S => star3 _ _ _ _
  rw [hk S0]
  refine (Rg.units1_f (J := J) (X := X) h1 h2 hN h0 hY).mono ?_; rintro v B ⟨rfl, ⟨S, hS, rfl⟩ | ⟨S, hS, rfl⟩⟩
  · exact ⟨rfl, .inl ⟨S, hS, (hk S).symm⟩⟩
  · exact ⟨rfl, .inr ⟨S, hS, (hk S).symm⟩⟩
theorem units_c {A : SP} {at_ n : Nat} :
    Fn Tryz.prog 138 #[.int .i64 (at_ : Nat), .int .i64 (n : Nat), .int .i64 8] (A) (fun r B => ∃ b1 b2 b3, r = .func (.func 139) #[] #[.pointer (some ⟨b1, 0, none⟩), .pointer (some ⟨b2, 0, none⟩), .pointer (some ⟨b3, 0, none⟩)] ∧ B = A * (pt b1 (cl [.int .i64 (at_ : Int)] 3) * pt b2 (cl [.int .i64 (n : Int)] 3) * pt b3 (cl [.int .i64 8] 3))) := by
  refine fn_enterW (args := [.int .i64 (at_ : Nat), .int .i64 (n : Nat), .int .i64 8]) Tryz.func138 rfl Tryz.ntmps138 (by simp) ?_; refine sr ?_; refine tl_x rfl (o_box rfl rfl) ?_; rintro _ _ ⟨b3, rfl, rfl⟩; refine tl_x rfl (o_box rfl rfl) ?_; rintro _ _ ⟨b4, rfl, rfl⟩; refine tl_x rfl (o_box rfl rfl) ?_; rintro _ _ ⟨b5, rfl, rfl⟩; refine tla ?_; refine nq ?_; refine sr ?_; refine tv (o_makeFunc rfl rfl) ?_; refine tla ?_; refine nq ?_; refine tc_ret ?_; exact ⟨_, _, res1 rfl rfl, fun _ _ h => h, b3, b4, b5, rfl, (star3 _ _ _ _).symm⟩
theorem Words_c {A : SP} {at_ n : Nat} :
    Fn Tryz.prog 135 #[.int .i64 (at_ : Nat), .int .i64 (n : Nat)] (A) (fun r B => ∃ b1 b2 b3, r = .func (.func 139) #[] #[.pointer (some ⟨b1, 0, none⟩), .pointer (some ⟨b2, 0, none⟩), .pointer (some ⟨b3, 0, none⟩)] ∧ B = A * (pt b1 (cl [.int .i64 (at_ : Int)] 3) * pt b2 (cl [.int .i64 (n : Int)] 3) * pt b3 (cl [.int .i64 8] 3))) := by
  refine fn_enterW (args := [.int .i64 (at_ : Nat), .int .i64 (n : Nat)]) Tryz.func135 rfl Tryz.ntmps135 (by simp) ?_; refine sr ?_; refine tla ?_; refine nq ?_; refine sr ?_; refine tlm ?_; refine tlm ?_; refine tl_c rfl (o_call bd138 rfl (units_c)) ?_; rintro _ _ ⟨b17, b27, b37, rfl, rfl⟩; refine tla ?_; refine nq ?_; refine tc_ret ?_; exact ⟨_, _, res1 rfl rfl, fun _ _ h => h, b17, b27, b37, rfl, rfl⟩
namespace Rg
theorem Lines1_f {at_ n l0 N b1 b2 : Nat} {J : Nat → SP → Prop} {X : SP → Prop} {S0 : SP} (h1 : 1 ≤ n) (h2 : at_ + n ≤ 9223372036854775807) (hN : N = (at_ + n - 1) / 64 - at_ / 64 + 1) (h0 : J 0 S0) (hY : ∀ F i S, i < N → J i S → Yd Tryz.prog l0 #[.int .i64 ((at_ / 64 + i : Nat) : Int)] (F * S) (fun v B => ∃ (b : Bool) (S' : SP), v = .bool b ∧ (b = true → J (i + 1) S') ∧ (b = false → X S') ∧ B = F * S')) :
    Fn Tryz.prog 134 #[.func (.yield l0) #[] #[], .pointer (some ⟨b1, 0, none⟩), .pointer (some ⟨b2, 0, none⟩)] (S0 * pt b1 (cl [.int .i64 (at_ : Int)] 3) * pt b2 (cl [.int .i64 (n : Int)] 3)) (fun r B => r = .tuple #[] ∧ ((∃ S, J N S ∧ B = S * pt b1 (cl [.int .i64 (at_ : Int)] 3) * pt b2 (cl [.int .i64 (n : Int)] 3)) ∨ ∃ S, X S ∧ B = S * pt b1 (cl [.int .i64 (at_ : Int)] 3) * pt b2 (cl [.int .i64 (n : Int)] 3))) := by
  refine fn_enterW (args := [.func (.yield l0) #[] #[], .pointer (some ⟨b1, 0, none⟩), .pointer (some ⟨b2, 0, none⟩)]) Tryz.func134 rfl Tryz.ntmps134 (by simp) ?_; refine tc_seq ?_; refine tc_reg ?_; refine tl_x rfl (o_box rfl rfl) ?_; rintro _ _ ⟨b3, rfl, rfl⟩; refine tl_nil ?_; refine q_then_n ?_; refine tc_seq ?_; refine tc_reg ?_; refine tl_x rfl (o_alloc z3 rfl) ?_; rintro _ _ ⟨b4, rfl, rfl⟩; refine tl_u rfl (o_stU rfl (by repeat (first | with_reducible exact upd_here | with_reducible exact upd_pt | apply upd_left)) sz3 rfl rfl (by first | decide | simp | omega) rfl) ?_; refine tl_nil ?_; refine q_then_n ?_; refine tc_seq ?_; refine tc_reg ?_; refine tl_v rfl (by first | exact o_load p3 rfl (by repeat (first | with_reducible exact has_here | with_reducible exact has_pt | apply has_left)) rfl | exact o_loadC p3 rfl (by assumption)) ?_; refine tl_v rfl (by first | exact o_load p3 rfl (by repeat (first | with_reducible exact has_here | with_reducible exact has_pt | apply has_left)) rfl | exact o_loadC p3 rfl (by assumption)) ?_; refine tl_c rfl (o_call bd135 rfl (Words_c)) ?_; rintro _ _ ⟨w1, w2, w3, rfl, rfl⟩; refine tl_nil ?_; refine q_then_n ?_; refine tc_block ?_; refine tc_rangeI (K := (pt w1 (cl [.int .i64 (at_ : Int)] 3) * pt w2 (cl [.int .i64 (n : Int)] 3) * pt w3 (cl [.int .i64 8] 3))) (N := ((at_ + n - 1) / 8 - at_ / 8 + 1)) (A0 := S0 * pt b1 (cl [.int .i64 (at_ : Int)] 3) * pt b2 (cl [.int .i64 (n : Int)] 3) * pt b3 (cl [.func (.yield l0) #[] #[]] 57) * pt b4 (cl [.int .i64 (-1)] 3)) (fun i S => ∃ (S1 : SP) (c : Nat) (ws : Int), (J c S1) ∧ ((i = 0 ∧ c = 0 ∧ ws = -1) ∨ (0 < i ∧ ws = (((at_ / 8 + i - 1) / 8 : Nat) : Int) ∧ c = (at_ / 8 + i - 1) / 8 - at_ / 64 + 1)) ∧ S = S1 * pt b1 (cl [.int .i64 (at_ : Int)] 3) * pt b2 (cl [.int .i64 (n : Int)] 3) * pt b3 (cl [.func (.yield l0) #[] #[]] 57) * pt b4 (cl [.int .i64 ws] 3)) (fun j S => ∃ (S1 : SP) (ws : Int), j = .ret ∧ (X S1) ∧ S = S1 * pt b1 (cl [.int .i64 (at_ : Int)] 3) * pt b2 (cl [.int .i64 (n : Int)] 3) * pt b3 (cl [.func (.yield l0) #[] #[]] 57) * pt b4 (cl [.int .i64 ws] 3)) rfl bd139 (units_it (N := ((at_ + n - 1) / 8 - at_ / 8 + 1)) h1 h2 rfl) (fun _ => rfl) rfl (Dr.sat (by repeat (first | with_reducible exact dr_refl | apply dr_keep | apply dr_drop))) (⟨S0, 0, -1, h0, by omega, rfl⟩) ?_ ?_ ?_
  · intro l F i S hi hI
    obtain ⟨S1, c, ws, hi0, hi1, rfl⟩ := hI
    refine tc_eq (by simp only [← star_assoc]; rfl) ?_
    have hcN : (at_ / 8 + i) / 8 - at_ / 64 < N := by omega
    refine tc_env (d := 10) (v := .int .i64 ((at_ / 8 + i : Nat) : Int)) rfl ?_; refine tc_reg ?_; refine tla ?_; refine tl_nil ?_; refine ⟨S1 * pt b1 (cl [.int .i64 (at_ : Int)] 3) * pt b2 (cl [.int .i64 (n : Int)] 3) * pt b3 (cl [.func (.yield l0) #[] #[]] 57) * pt b4 (cl [.int .i64 ws] 3), fun g w h => by simp only [← star_assoc]; exact Dr.sat (by repeat (first | with_reducible exact dr_refl | apply dr_keep | apply dr_drop)) g w h, fun F => ?_⟩; refine tc_eq (by simp only [← star_assoc]; rfl) ?_; refine tc_block ?_; refine tc_seq ?_; refine tc_reg ?_; refine tlm ?_; refine tl_v rfl (o_quoN (b := 8) rfl rfl (by omega)) ?_; refine tla ?_; refine tl_nil ?_; refine q_then_n ?_; refine tc_seq ?_; refine tc_seq ?_; refine tc_reg ?_; refine tlm ?_; refine tl_v rfl (by first | exact o_load p3 rfl (by repeat (first | with_reducible exact has_here | with_reducible exact has_pt | apply has_left)) rfl | exact o_loadC p3 rfl (by assumption)) ?_; refine tl_v rfl (o_nei rfl rfl) ?_; refine tlm ?_; refine tl_bool (d := 16) rfl (fun h => ?_) (fun h => ?_)
    · have hne : (at_ / 8 + i) / 8 = at_ / 64 + c := by simp at h; omega
      refine tl_v rfl (by first | exact o_load p57 rfl (by repeat (first | with_reducible exact has_here | with_reducible exact has_pt | apply has_left)) rfl | exact o_loadC p57 rfl (by assumption)) ?_; refine tlm ?_; refine tl_env (d := 18) (v := .int .i64 ((at_ / 64 + c : Nat) : Int)) (congrArg (fun z : Nat => Value.int .i64 (z : Int)) hne) ?_; refine tl_y rfl rfl rfl (yd_b (F := F * pt b1 (cl [.int .i64 (at_ : Int)] 3) * pt b2 (cl [.int .i64 (n : Int)] 3) * pt b3 (cl [.func (.yield l0) #[] #[]] 57) * pt b4 (cl [.int .i64 ws] 3)) (G := fun S' => F * S' * pt b1 (cl [.int .i64 (at_ : Int)] 3) * pt b2 (cl [.int .i64 (n : Int)] 3) * pt b3 (cl [.func (.yield l0) #[] #[]] 57) * pt b4 (cl [.int .i64 ws] 3)) (S := S1) (hY _ c S1 (by omega) hi0) (by ac_rfl) (fun S' => by ac_rfl)) ?_; rintro _ _ ⟨b19, S2, rfl, hT, hF, rfl⟩; refine tl_v rfl (o_not rfl) ?_; refine tl_v rfl (o_pick_t rfl (by conv => lhs; whnf)) ?_; refine tl_nil ?_; refine q_then_n ?_; refine tc_cond rfl (fun h => ?_) (fun h => ?_)
      · have hb : b19 = false := by simpa using h
        subst hb
        refine tc_ret ?_; refine q_then_r (q_block_r ?_); exact ⟨(S2) * pt b1 (cl [.int .i64 (at_ : Int)] 3) * pt b2 (cl [.int .i64 (n : Int)] 3) * pt b3 (cl [.func (.yield l0) #[] #[]] 57) * pt b4 (cl [.int .i64 (ws)] 3), fun g w h => by simp only [← star_assoc]; exact Dr.sat (by repeat (first | with_reducible exact dr_refl | apply dr_keep | apply dr_drop)) g w h, S2, ws, rfl, hF rfl, rfl⟩
      · have hb : b19 = true := by simpa using h
        subst hb
        refine tc_skip ?_; refine q_then_n ?_
        try rw [← hne]
        refine tc_reg ?_; refine tlm ?_; refine tl_u rfl (o_stU rfl (by repeat (first | with_reducible exact upd_here | with_reducible exact upd_pt | apply upd_left)) sz3 rfl rfl (by first | decide | simp | omega) rfl) ?_; refine tl_nil ?_; refine q_block_n ?_; exact ⟨(S2) * pt b1 (cl [.int .i64 (at_ : Int)] 3) * pt b2 (cl [.int .i64 (n : Int)] 3) * pt b3 (cl [.func (.yield l0) #[] #[]] 57) * pt b4 (cl [.int .i64 ((((at_ / 8 + i) / 8 : Nat) : Int))] 3), fun g w h => by simp only [← star_assoc]; exact Dr.sat (by repeat (first | with_reducible exact dr_refl | apply dr_keep | apply dr_drop)) g w h, S2, c + 1, (((at_ / 8 + i) / 8 : Nat) : Int), hT rfl, by omega, rfl⟩
    · have hne : (((at_ / 8 + i) / 8 : Nat) : Int) = ws := by simpa using h
      refine tl_skip rfl ?_; refine tl_skip rfl ?_; refine tl_skip rfl ?_; refine tl_skip rfl ?_; refine tl_v rfl (o_pick_f rfl (by conv => lhs; whnf)) ?_; refine tl_nil ?_; refine q_then_n ?_; refine tc_cond_f rfl ?_; refine tc_skip ?_; refine q_then_n ?_
      try rw [← hne]
      refine tc_reg ?_; refine tlm ?_; refine tl_u rfl (o_stU rfl (by repeat (first | with_reducible exact upd_here | with_reducible exact upd_pt | apply upd_left)) sz3 rfl rfl (by first | decide | simp | omega) rfl) ?_; refine tl_nil ?_; refine q_block_n ?_; exact ⟨(S1) * pt b1 (cl [.int .i64 (at_ : Int)] 3) * pt b2 (cl [.int .i64 (n : Int)] 3) * pt b3 (cl [.func (.yield l0) #[] #[]] 57) * pt b4 (cl [.int .i64 ((((at_ / 8 + i) / 8 : Nat) : Int))] 3), fun g w h => by simp only [← star_assoc]; exact Dr.sat (by repeat (first | with_reducible exact dr_refl | apply dr_keep | apply dr_drop)) g w h, S1, c, (((at_ / 8 + i) / 8 : Nat) : Int), hi0, by omega, rfl⟩
  · intro r S hI
    obtain ⟨S1, c, ws, hi0, hi1, rfl⟩ := hI
    refine q_block_n ?_
    obtain rfl : c = N := by omega
    exact ⟨[r], S1 * pt b1 (cl [.int .i64 (at_ : Int)] 3) * pt b2 (cl [.int .i64 (n : Int)] 3), rfl, fun _ _ h => mk1 (Dr.sat (A' := S1 * pt b1 (cl [.int .i64 (at_ : Int)] 3) * pt b2 (cl [.int .i64 (n : Int)] 3) * pt r mkO) (by repeat (first | with_reducible exact dr_refl | apply dr_keep | apply dr_drop)) _ _ h), .tuple #[], S1 * pt b1 (cl [.int .i64 (at_ : Int)] 3) * pt b2 (cl [.int .i64 (n : Int)] 3), res0 rfl, fun _ _ h => h, rfl, .inl ⟨S1, hi0, rfl⟩⟩
  · intro r j S hX
    obtain ⟨S1, ws, rfl, hx0, rfl⟩ := hX
    refine jmp_r ?_; refine q_block_r ?_; exact ⟨[r], S1 * pt b1 (cl [.int .i64 (at_ : Int)] 3) * pt b2 (cl [.int .i64 (n : Int)] 3), rfl, fun _ _ h => mk1 (Dr.sat (A' := S1 * pt b1 (cl [.int .i64 (at_ : Int)] 3) * pt b2 (cl [.int .i64 (n : Int)] 3) * pt r mkO) (by repeat (first | with_reducible exact dr_refl | apply dr_keep | apply dr_drop)) _ _ h), .tuple #[], S1 * pt b1 (cl [.int .i64 (at_ : Int)] 3) * pt b2 (cl [.int .i64 (n : Int)] 3), res0 rfl, fun _ _ h => h, rfl, .inr ⟨S1, hx0, rfl⟩⟩
end Rg
theorem Lines_it {at_ n N b1 b2 : Nat} (h1 : 1 ≤ n) (h2 : at_ + n ≤ 9223372036854775807) (hN : N = (at_ + n - 1) / 64 - at_ / 64 + 1) :
    Rg.It Tryz.prog 134 [] [.pointer (some ⟨b1, 0, none⟩), .pointer (some ⟨b2, 0, none⟩)] (pt b1 (cl [.int .i64 (at_ : Int)] 3) * pt b2 (cl [.int .i64 (n : Int)] 3)) N (fun i => [.int .i64 ((at_ / 64 + i : Nat) : Int)]) := fun l J X S0 h0 hY => by
  have hk : ∀ S : SP, S * (pt b1 (cl [.int .i64 (at_ : Int)] 3) * pt b2 (cl [.int .i64 (n : Int)] 3)) = S * pt b1 (cl [.int .i64 (at_ : Int)] 3) * pt b2 (cl [.int .i64 (n : Int)] 3) := fun S => star2' _ _ _
  rw [hk S0]
  refine (Rg.Lines1_f (J := J) (X := X) h1 h2 hN h0 hY).mono ?_; rintro v B ⟨rfl, ⟨S, hS, rfl⟩ | ⟨S, hS, rfl⟩⟩
  · exact ⟨rfl, .inl ⟨S, hS, (hk S).symm⟩⟩
  · exact ⟨rfl, .inr ⟨S, hS, (hk S).symm⟩⟩
theorem Lines_c {A : SP} {at_ n : Nat} :
    Fn Tryz.prog 123 #[.int .i64 (at_ : Nat), .int .i64 (n : Nat)] (A) (fun r B => ∃ b1 b2, r = .func (.func 134) #[] #[.pointer (some ⟨b1, 0, none⟩), .pointer (some ⟨b2, 0, none⟩)] ∧ B = A * (pt b1 (cl [.int .i64 (at_ : Int)] 3) * pt b2 (cl [.int .i64 (n : Int)] 3))) := by
  refine fn_enterW (args := [.int .i64 (at_ : Nat), .int .i64 (n : Nat)]) Tryz.func123 rfl Tryz.ntmps123 (by simp) ?_; refine sr ?_; refine tl_x rfl (o_box rfl rfl) ?_; rintro _ _ ⟨b2, rfl, rfl⟩; refine tl_x rfl (o_box rfl rfl) ?_; rintro _ _ ⟨b3, rfl, rfl⟩; refine tla ?_; refine nq ?_; refine sr ?_; refine tv (o_makeFunc rfl rfl) ?_; refine tla ?_; refine nq ?_; refine tc_ret ?_; exact ⟨_, _, res1 rfl rfl, fun _ _ h => h, b2, b3, rfl, (star2' _ _ _).symm⟩
end Go.Vl

set_option linter.unusedVariables false
set_option linter.unusedSimpArgs false
namespace Go.Vl
open Go Go.Proofs
theorem ct_wf2 {A R : SP} {C : SP → SP} {d : Nat} {s : DevS} (hc : Ct A (Dev d s) R C) {g : Gh} {w : World} (hs : sat g w A) : WfD s := by
  obtain ⟨rfl, _⟩ := hc; exact (dev_iff.1 hs).1
theorem doneS_len (s : DevS) : (doneS s).ls.length = s.ls.length := by
  unfold doneS
  split
  · rfl
  · split
    · rfl
    · simp [goesS, goPart_length]
theorem fl1_len (p : Int) (s : DevS) : (fl1 p s).2.ls.length = s.ls.length := by
  unfold fl1
  split
  · rfl
  · rw [doneS_len]; exact (onLine_fields _ _ s).2.2.2.2
/-- Lines are flushed, one behind the other; then the fence. -/
def flF : Nat → Nat → DevS → Int × DevS
  | 0, _, s => fe s
  | k + 1, q, s => if (fl1 ((q * 64 : Nat) : Int) s).1 ≠ 0 then fl1 ((q * 64 : Nat) : Int) s else flF k (q + 1) (fl1 ((q * 64 : Nat) : Int) s).2
theorem flF_zero (q : Nat) (s : DevS) : flF 0 q s = fe s := rfl
theorem flF_e {N i q : Nat} {s s2 : DevS} {e : Int} (hi : i < N) (h : fl1 (((q + i) * 64 : Nat) : Int) s = (e, s2)) (he : e ≠ 0) : flF (N - i) (q + i) s = (e, s2) := by
  rw [show N - i = (N - (i + 1)) + 1 by omega]
  show (if _ then _ else _) = _
  rw [h, if_pos he]
theorem flF_o {N i q : Nat} {s s2 : DevS} (hi : i < N) (h : fl1 (((q + i) * 64 : Nat) : Int) s = (0, s2)) : flF (N - i) (q + i) s = flF (N - (i + 1)) (q + (i + 1)) s2 := by
  rw [show N - i = (N - (i + 1)) + 1 by omega]
  show (if _ then _ else _) = _
  rw [h, if_neg (by simp)]; rfl
/-- A range is made to last. -/
def lastS (p m : Nat) (s : DevS) : Int × DevS := flF ((p + m - 1) / 64 - p / 64 + 1) (p / 64) s
attribute [local irreducible] Sl pt ro Dev imgS
namespace Rg
theorem last_c {A R : SP} {C : SP → SP} {d : Nat} {s : DevS} (hc : Ct A (Dev d s) R C := by repeat (first | with_reducible exact ct_here | apply ct_left)) {p m : Nat} (h1 : 1 ≤ m := by omega) (hpm : p + m ≤ s.ls.length * 64 := by omega) :
    Fn Tryz.prog 77 #[.pointer (some ⟨d, 0, none⟩), .int .i64 (p : Nat), .int .i64 (m : Nat)] (A) (fun r B => ∃ e s2, lastS p m s = (e, s2) ∧ r = .int .i64 e ∧ B = C (Dev d s2)) := by
  refine fn_enterW (args := [.pointer (some ⟨d, 0, none⟩), .int .i64 (p : Nat), .int .i64 (m : Nat)]) Tryz.func77 rfl Tryz.ntmps77 (by simp) ?_; refine tc_have (fun _ _ h => ct_wf2 hc h) fun hw => ?_
  obtain ⟨rfl, hC⟩ := hc
  have htop := hw.top
  refine tc_seq ?_; refine tc_reg ?_; refine tl_x rfl (o_alloc z25 rfl) ?_; rintro _ _ ⟨b6, rfl, rfl⟩; refine tl_nil ?_; refine q_then_n ?_; refine tc_seq ?_; refine tc_reg ?_; refine tlm ?_; refine tl_v rfl (o_makeFunc rfl rfl) ?_; refine tl_x rfl (o_alloc z157 rfl) ?_; rintro _ _ ⟨b7, rfl, rfl⟩; refine tl_u rfl (o_stU rfl (by repeat (first | with_reducible exact upd_here | with_reducible exact upd_pt | apply upd_left)) sz157 rfl rfl (by first | decide | simp | omega) rfl) ?_; refine tl_nil ?_; refine q_then_n ?_; refine tc_seq ?_; refine tc_seq ?_; refine tc_reg ?_; refine tlm ?_; refine tlm ?_; refine tl_c rfl (o_call bd123 rfl (Lines_c)) ?_; rintro _ _ ⟨w1, w2, rfl, rfl⟩; refine tl_nil ?_; refine q_then_n ?_; refine tc_block ?_; refine tc_rangeI (K := (pt w1 (cl [.int .i64 (p : Int)] 3) * pt w2 (cl [.int .i64 (m : Int)] 3))) (N := ((p + m - 1) / 64 - p / 64 + 1)) (A0 := R * Dev d s * pt b6 (cl [.int .i64 0] 25) * pt b7 (cl [.func (.func 37) #[.pointer (some ⟨d, 0, none⟩)] #[]] 157)) (fun i S => ∃ (s1 : DevS), (flF (((p + m - 1) / 64 - p / 64 + 1) - i) (p / 64 + i) s1 = flF ((p + m - 1) / 64 - p / 64 + 1) (p / 64) s) ∧ (s1.ls.length = s.ls.length) ∧ S = R * Dev d s1 * pt b6 (cl [.int .i64 0] 25) * pt b7 (cl [.func (.func 37) #[.pointer (some ⟨d, 0, none⟩)] #[]] 157)) (fun j S => ∃ (e : Int) (s1 : DevS), j = .ret ∧ (flF ((p + m - 1) / 64 - p / 64 + 1) (p / 64) s = (e, s1)) ∧ S = R * Dev d s1 * pt b6 (cl [.int .i64 e] 25) * pt b7 (cl [.func (.func 37) #[.pointer (some ⟨d, 0, none⟩)] #[]] 157)) rfl bd134 (Lines_it (N := ((p + m - 1) / 64 - p / 64 + 1)) h1 (by omega) rfl) (fun _ => rfl) rfl (Dr.sat (by repeat (first | with_reducible exact dr_refl | apply dr_keep | apply dr_drop))) (⟨s, rfl, rfl, rfl⟩) ?_ ?_ ?_
  · intro l F i S hi hI
    obtain ⟨s1, hi0, hi1, rfl⟩ := hI
    refine tc_eq (by simp only [← star_assoc]; rfl) ?_; refine tc_env (d := 15) (v := .int .i64 ((p / 64 + i : Nat) : Int)) rfl ?_; refine tc_reg ?_; refine tla ?_; refine tl_nil ?_; refine ⟨R * Dev d s1 * pt b6 (cl [.int .i64 0] 25) * pt b7 (cl [.func (.func 37) #[.pointer (some ⟨d, 0, none⟩)] #[]] 157), fun g w h => by simp only [← star_assoc]; exact Dr.sat (by repeat (first | with_reducible exact dr_refl | apply dr_keep | apply dr_drop)) g w h, fun F => ?_⟩; refine tc_eq (by simp only [← star_assoc]; rfl) ?_; refine tc_block ?_; refine tc_seq ?_; refine tc_reg ?_; refine tl_v rfl (by first | exact o_load p157 rfl (by repeat (first | with_reducible exact has_here | with_reducible exact has_pt | apply has_left)) rfl | exact o_loadC p157 rfl (by assumption)) ?_; refine tlm ?_; refine tl_v rfl (by first | exact o_mulI rfl rfl (by omega) | exact o_mul rfl rfl) ?_; refine tl_env (d := 18) (v := .int .i64 (((p / 64 + i) * 64 : Nat) : Int)) (rfl) ?_; refine tl_c rfl (o_dyn bd37 rfl rfl (Flush_c (s := s1) (p := (((p / 64 + i) * 64 : Nat) : Int)))) ?_; rintro _ _ ⟨e19, s19, hs19, rfl, rfl⟩; refine tla ?_; refine tl_nil ?_; refine q_then_n ?_; refine tc_seq ?_; refine tc_reg ?_; refine tlm ?_; refine tl_v rfl (o_nei rfl rfl) ?_; refine tl_nil ?_; refine q_then_n ?_; refine tc_cond rfl (fun h => ?_) (fun h => ?_)
    · have h : e19 ≠ 0 := by simpa using h
      refine tc_seq ?_; refine tc_reg ?_; refine tlm ?_; refine tl_u rfl (o_stU rfl (by repeat (first | with_reducible exact upd_here | with_reducible exact upd_pt | apply upd_left)) sz25 rfl rfl (by first | decide | simp | omega) rfl) ?_; refine tl_nil ?_; refine q_then_n ?_; refine tc_ret ?_; refine q_block_r ?_; exact ⟨R * Dev d (s19) * pt b6 (cl [.int .i64 (e19)] 25) * pt b7 (cl [.func (.func 37) #[.pointer (some ⟨d, 0, none⟩)] #[]] 157), fun g w h => by simp only [← star_assoc]; exact Dr.sat (by repeat (first | with_reducible exact dr_refl | apply dr_keep | apply dr_drop)) g w h, e19, s19, rfl, by rw [← hi0]; exact flF_e hi hs19 h, rfl⟩
    · obtain rfl : e19 = 0 := by simpa using h
      refine tc_skip ?_; refine q_block_n ?_; exact ⟨R * Dev d (s19) * pt b6 (cl [.int .i64 0] 25) * pt b7 (cl [.func (.func 37) #[.pointer (some ⟨d, 0, none⟩)] #[]] 157), fun g w h => by simp only [← star_assoc]; exact Dr.sat (by repeat (first | with_reducible exact dr_refl | apply dr_keep | apply dr_drop)) g w h, s19, by rw [← hi0]; exact (flF_o hi hs19).symm, by have := fl1_len (((p / 64 + i) * 64 : Nat) : Int) s1; rw [hs19] at this; exact this.trans hi1, rfl⟩
  · intro r S hI
    obtain ⟨s1, hi0, hi1, rfl⟩ := hI
    refine q_block_n (q_then_n ?_); refine tc_seq ?_; refine tc_reg ?_; refine tlm ?_; refine tl_c rfl (o_call bd39 rfl (Fence_c (s := s1))) ?_; rintro _ _ ⟨e24, s24, hs24, rfl, rfl⟩
    have hlast : lastS p m s = (e24, s24) := by show flF _ _ _ = _; rw [← hi0, Nat.sub_self]; exact hs24
    refine tl_u rfl (o_stU rfl (by repeat (first | with_reducible exact upd_here | with_reducible exact upd_pt | apply upd_left)) sz25 rfl rfl (by first | decide | simp | omega) rfl) ?_; refine tl_nil ?_; refine q_then_n ?_; refine tc_ret ?_; exact ⟨[r], R * Dev d s24 * pt b6 (cl [.int .i64 e24] 25), rfl, fun _ _ h => mk1 (Dr.sat (A' := R * Dev d s24 * pt b6 (cl [.int .i64 e24] 25) * pt r mkO) (by repeat (first | with_reducible exact dr_refl | apply dr_keep | apply dr_drop)) _ _ h), .int .i64 e24, C (Dev d s24), resA1 rfl (rv_cell1 p25 rfl (by repeat (first | with_reducible exact has_here | with_reducible exact has_pt | apply has_left)) rfl), fun _ _ h => by rw [hC]; exact h.left, e24, s24, hlast, rfl, rfl⟩
  · intro r j S hX
    obtain ⟨e, s1, rfl, hx0, rfl⟩ := hX
    refine jmp_r ?_; refine q_block_r (q_then_r ?_); exact ⟨[r], R * Dev d s1 * pt b6 (cl [.int .i64 e] 25), rfl, fun _ _ h => mk1 (Dr.sat (A' := R * Dev d s1 * pt b6 (cl [.int .i64 e] 25) * pt r mkO) (by repeat (first | with_reducible exact dr_refl | apply dr_keep | apply dr_drop)) _ _ h), .int .i64 e, C (Dev d s1), resA1 rfl (rv_cell1 p25 rfl (by repeat (first | with_reducible exact has_here | with_reducible exact has_pt | apply has_left)) rfl), fun _ _ h => by rw [hC]; exact h.left, e, s1, hx0, rfl, rfl⟩
end Rg
end Go.Vl

set_option linter.unusedVariables false
set_option linter.unusedSimpArgs false
namespace Go.Vl
open Go Go.Proofs
def insB (n : Nat) (p m : Int) : Bool := decide (0 ≤ p ∧ 0 ≤ m ∧ p ≤ (n : Int) * 64 ∧ m ≤ (n : Int) * 64 - p)
theorem stE_off {s : DevS} (h : stE s ≠ 0) : s.off = true := by
  unfold stE at h; by_cases e : s.off = true
  · exact e
  · rw [if_neg e] at h; exact absurd rfl h
theorem stE_on {s : DevS} (h : stE s = 0) : s.off = false := by
  unfold stE at h; by_cases e : s.off = true
  · rw [if_pos e] at h; exact absurd h (by decide)
  · simpa using e
theorem layS_len' (p v : Nat) (s : DevS) : (layS p v s).ls.length = s.ls.length := (onLine_fields _ _ s).2.2.2.2
theorem storeF_len : ∀ (f p : Nat) (b : List Nat) (s : DevS), (storeF f p b s).2.ls.length = s.ls.length
  | 0, _, _, _ => rfl
  | f + 1, p, b, s => by
    unfold storeF
    split
    · rfl
    · split
      · rw [doneS_len, layS_len']
      · rw [storeF_len, doneS_len, layS_len']
theorem sto_len (p : Int) (b : List Nat) (s : DevS) : (sto p b s).2.ls.length = s.ls.length := by
  unfold sto
  split
  · rfl
  · exact storeF_len _ _ _ _
theorem sto_rdy {p : Int} {b : List Nat} {s : DevS} (h : (sto p b s).1 = 0) : rdy s.ls.length s.off p b.length = 0 := by
  unfold sto at h
  split at h
  · exact h
  · rename_i h2; exact Classical.not_not.1 h2
/-- What Range, Bytes, Publish answer, and the device behind them. -/
def rangeP (p m : Int) (s : DevS) : Int × DevS := if s.off = true then (5, s) else if m < 1 then (0, s) else if rdy s.ls.length false p m ≠ 0 then (6, s) else lastS p.toNat m.toNat s
def bytesP (p : Int) (b : List Nat) (s : DevS) : Int × DevS := if s.off = true then (5, s) else if b = [] then (0, s) else if (sto p b s).1 ≠ 0 then sto p b s else lastS p.toNat b.length (sto p b s).2
def pubP (p : Int) (v : Nat) (s : DevS) : Int × DevS := if (st8 p v s).1 ≠ 0 then st8 p v s else lastS p.toNat 8 (st8 p v s).2
/-- A number of n bytes that is told. -/
def loadP (p : Int) (n : Nat) (s : DevS) : Nat × Int := if rdy s.ls.length s.off p n ≠ 0 then (0, rdy s.ls.length s.off p n) else (nm (((imgS s).drop p.toNat).take n), 0)
def wordP (p : Int) (s : DevS) : Nat × Int := if s.off = true then (0, 5) else if p % 8 ≠ 0 then (0, 6) else loadP p 8 s
attribute [local irreducible] Sl pt ro Dev imgS
theorem Bytes_c {A R : SP} {C : SP → SP} {d : Nat} {s : DevS} (hc : Ct A (Dev d s) R C := by repeat (first | with_reducible exact ct_here | apply ct_left)) {a : Option Addr} {c m : Nat} {p : Int} {xs : List Nat} (hr : Rs R a (bys xs) := by repeat (first | assumption | with_reducible exact rs_sl | with_reducible exact rs_pt0 | exact rs_none | apply Rs.left)) (hm : xs.length = m := by first | assumption | rfl) (hmc : m ≤ c := by first | assumption | omega) (hb : ∀ x ∈ xs, x < 256 := by assumption) (hml : m ≤ 140737488351232 := by omega) (hp : -9223372036854775808 ≤ p ∧ p ≤ 9223372036854775807 := by omega) (hroom : rdy s.ls.length s.off p m = 0 → Room m s := by assumption) :
    Fn Tryz.prog 59 #[.pointer (some ⟨d, 0, none⟩), .int .i64 p, .slice a m c] (A) (fun r B => ∃ e s2, bytesP p xs s = (e, s2) ∧ r = .int .i64 e ∧ B = C (Dev d s2)) := by
  refine fn_enterW (args := [.pointer (some ⟨d, 0, none⟩), .int .i64 p, .slice a m c]) Tryz.func59 rfl Tryz.ntmps59 (by simp) ?_; refine tc_have (fun _ _ h => ct_wf2 hc h) fun hw => ?_
  obtain ⟨rfl, hC⟩ := hc
  have htop := hw.top
  have hpos := hw.pos
  have hAC : ∀ g w, sat g w (R * Dev d s) → sat g w (C (Dev d s)) := fun g w h => by rw [hC]; exact h
  subst hm
  refine sr ?_; refine tla ?_; refine nq ?_; refine tc_seq ?_; refine sr ?_; refine tlm ?_; refine tl_c rfl (o_call bd75 rfl (alive_c (s := s))) ?_; rintro _ _ ⟨rfl, rfl⟩; refine tla ?_; refine nq ?_; refine sr ?_; refine tlm ?_; refine tv (o_nei rfl rfl) ?_; refine nq ?_; refine tc_cond rfl (fun h => ?_) (fun h => ?_)
  · try simp only [lv1, lv2, lv3, lv4, lv5, lv6, Bool.not_true, Bool.not_false] at h
    refine sr ?_; refine tlm ?_; refine tla ?_; refine nq ?_; refine tc_ret ?_; refine q_then_r ?_; exact ⟨.int .i64 (stE s), C (Dev d s), res1 rfl rfl, hAC, stE s, s, by have ho := stE_off h; unfold bytesP stE; rw [if_pos ho, if_pos ho], rfl, rfl⟩
  · have ho : s.off = false := stE_on (by simpa using h)
    refine tc_skip ?_; refine q_then_n ?_; refine tc_seq ?_; refine sr ?_; refine tlm ?_; refine tv (o_len Tryz.underlying32 rfl) ?_; refine tv (o_eqi rfl rfl) ?_; refine nq ?_; refine tc_cond rfl (fun h => ?_) (fun h => ?_)
    · try simp only [lv1, lv2, lv3, lv4, lv5, lv6, Bool.not_true, Bool.not_false] at h
      refine sr ?_; refine tla ?_; refine nq ?_; refine tc_ret ?_; refine q_then_r ?_; exact ⟨.int .i64 0, C (Dev d s), res1 rfl rfl, hAC, 0, s, by unfold bytesP; rw [if_neg (by rw [ho]; decide), if_pos (List.eq_nil_of_length_eq_zero (by omega))], rfl, rfl⟩
    · have hne : xs ≠ [] := fun e => by subst e; simp at h
      have hl1 : 1 ≤ xs.length := List.length_pos_iff.2 hne
      refine tc_skip ?_; refine q_then_n ?_; refine tc_seq ?_; refine sr ?_; refine tlm ?_; refine tlm ?_; refine tlm ?_; refine tl_c rfl (o_call bd34 rfl (Store_c (s := s) (p := p) (xs := xs) (hr := hr) (hmc := hmc))) ?_; rintro _ _ ⟨e20, s20, hs20, rfl, rfl⟩; refine tla ?_; refine nq ?_; refine sr ?_; refine tlm ?_; refine tv (o_nei rfl rfl) ?_; refine nq ?_; refine tc_cond rfl (fun h => ?_) (fun h => ?_)
      · try simp only [lv1, lv2, lv3, lv4, lv5, lv6, Bool.not_true, Bool.not_false] at h
        refine sr ?_; refine tlm ?_; refine tla ?_; refine nq ?_; refine tc_ret ?_; refine q_then_r ?_; exact ⟨.int .i64 e20, C (Dev d s20), res1 rfl rfl, fun _ _ h => by rw [hC]; exact h, e20, s20, by unfold bytesP; rw [if_neg (by rw [ho]; decide), if_neg hne, hs20, if_pos (by simpa using h)], rfl, rfl⟩
      · obtain rfl : e20 = 0 := by simpa using h
        have hrd := rdy0 (sto_rdy (by rw [hs20]))
        have hsl := sto_len p xs s
        rw [hs20] at hsl
        simp only at hsl
        obtain ⟨q, rfl⟩ := Int.eq_ofNat_of_zero_le hrd.2.1
        refine tc_skip ?_; refine q_then_n ?_; refine sr ?_; refine tlm ?_; refine tlm ?_; refine tlm ?_; refine tv (o_len Tryz.underlying32 rfl) ?_; refine tl_c rfl (o_call bd77 rfl (Rg.last_c (s := s20) (p := q) (m := xs.length))) ?_; rintro _ _ ⟨e28, s28, hs28, rfl, rfl⟩; refine tla ?_; refine nq ?_; refine tc_ret ?_; exact ⟨.int .i64 e28, C (Dev d s28), res1 rfl rfl, fun _ _ h => by rw [hC]; exact h, e28, s28, by unfold bytesP; rw [if_neg (by rw [ho]; decide), if_neg hne, hs20, if_neg (by simp)]; exact hs28, rfl, rfl⟩
end Go.Vl

set_option linter.unusedVariables false
set_option linter.unusedSimpArgs false
namespace Go.Vl
open Go Go.Proofs
/-- v is no device: nil, or one that no call has made. -/
def NoD (A : SP) (v : Value) : Prop := v = .pointer none ∨ ∃ b, v = .pointer (some ⟨b, 0, none⟩) ∧ Cell A b 0 (.slice none 0 0)
theorem NoD.left {A X : SP} {v : Value} (h : NoD A v) : NoD (A * X) v := h.imp id fun ⟨b, e, hc⟩ => ⟨b, e, hc.left⟩
theorem noneN_f {A : SP} :
    Fn Tryz.prog 112 #[.pointer none] (A) (fun r B => r = .bool true ∧ A = B) := by
  refine fn_enterW (args := [.pointer none]) Tryz.func112 rfl Tryz.ntmps112 (by simp) ?_; refine sr ?_; refine tla ?_; refine nq ?_; refine sr ?_; refine tlm ?_; refine tv (o_eqp Tryz.underlying24 rfl rfl) ?_; refine tlm ?_; refine tl_bool (d := 5) rfl (fun h => ?_) (fun h => ?_)
  · try simp only [lv1, lv2, lv3, lv4, lv5, lv6, Bool.not_true, Bool.not_false] at h
    refine tk ?_; refine tk ?_; refine tk ?_; refine tk ?_; refine tk ?_; refine tk ?_; refine tv (o_pick_t rfl (by conv => lhs; whnf)) ?_; refine tla ?_; refine nq ?_; refine tc_ret ?_; exact ⟨_, _, res1 rfl rfl, fun _ _ h => h, rfl, rfl⟩
  · (exfalso; first | (revert h; simp; done) | (simp at h; done) | (revert h; simp; omega) | (simp at h; omega) | omega)
theorem noneE_f {A : SP} {b : Nat} (hc : Cell A b 0 (.slice none 0 0)) :
    Fn Tryz.prog 112 #[.pointer (some ⟨b, 0, none⟩)] (A) (fun r B => r = .bool true ∧ A = B) := by
  refine fn_enterW (args := [.pointer (some ⟨b, 0, none⟩)]) Tryz.func112 rfl Tryz.ntmps112 (by simp) ?_; refine sr ?_; refine tla ?_; refine nq ?_; refine sr ?_; refine tlm ?_; refine tv (o_eqp Tryz.underlying24 rfl rfl) ?_; refine tlm ?_; refine tl_bool (d := 5) rfl (fun h => ?_) (fun h => ?_)
  · (exfalso; first | (revert h; simp; done) | (simp at h; done) | (revert h; simp; omega) | (simp at h; omega) | omega)
  · try simp only [lv1, lv2, lv3, lv4, lv5, lv6, Bool.not_true, Bool.not_false] at h
    refine tlm ?_; refine tv (o_nilCheck rfl) ?_; refine tv (o_fieldAddr (o := 0) Tryz.underlying50 rfl rfl sz47 rfl) ?_; refine tv (o_loadC p47 rfl hc) ?_; refine tv (o_len Tryz.underlying47 rfl) ?_; refine tv (o_eqi rfl rfl) ?_; refine tv (o_pick_f rfl (by conv => lhs; whnf)) ?_; refine tla ?_; refine nq ?_; refine tc_ret ?_; exact ⟨_, _, res1 rfl rfl, fun _ _ h => h, rfl, rfl⟩
theorem noneZ_c {A : SP} {v : Value} (h0 : NoD A v := by assumption) : Fn Tryz.prog 112 #[v] A (fun r B => r = .bool true ∧ A = B) := by
  rcases h0 with rfl | ⟨b, rfl, hc⟩
  · exact noneN_f
  · exact noneE_f hc
theorem readyZ_c {A : SP} {v : Value} {p m : Int} (h0 : NoD A v := by assumption) :
    Fn Tryz.prog 96 #[v, .int .i64 p, .int .i64 m] (A) (fun r B => r = .int .i64 1 ∧ A = B) := by
  refine fn_enterW (args := [v, .int .i64 p, .int .i64 m]) Tryz.func96 rfl Tryz.ntmps96 (by simp) ?_; refine sr ?_; refine tla ?_; refine nq ?_; refine tc_seq ?_; refine tc_block ?_; refine sr ?_; refine tlm ?_; refine tl_c rfl (o_call bd112 rfl (noneZ_c)) ?_; rintro _ _ ⟨rfl, rfl⟩; refine tla ?_; refine nq ?_; refine tc_cond rfl (fun h => ?_) (fun h => ?_)
  · try simp only [lv1, lv2, lv3, lv4, lv5, lv6, Bool.not_true, Bool.not_false] at h
    refine sr ?_; refine tla ?_; refine nq ?_; refine tc_ret ?_; refine q_block_r (q_then_r ?_); exact ⟨_, _, res1 rfl rfl, fun _ _ h => h, rfl, rfl⟩
  · (exfalso; first | (revert h; simp; done) | (simp at h; done) | (revert h; simp; omega) | (simp at h; omega) | omega)
theorem LoadZ_c {A : SP} {v : Value} {p m : Int} (h0 : NoD A v := by assumption) :
    Fn Tryz.prog 74 #[v, .int .i64 p, .int .i64 m] (A) (fun r B => r = .tuple #[.slice none 0 0, .int .i64 1] ∧ A = B) := by
  refine fn_enterW (args := [v, .int .i64 p, .int .i64 m]) Tryz.func74 rfl Tryz.ntmps74 (by simp) ?_; refine sr ?_; refine tla ?_; refine tla ?_; refine nq ?_; refine tc_seq ?_; refine sr ?_; refine tlm ?_; refine tlm ?_; refine tlm ?_; refine tl_c rfl (o_call bd96 rfl (readyZ_c)) ?_; rintro _ _ ⟨rfl, rfl⟩; refine tla ?_; refine nq ?_; refine sr ?_; refine tlm ?_; refine tv (o_nei rfl rfl) ?_; refine nq ?_; refine tc_cond rfl (fun h => ?_) (fun h => ?_)
  · try simp only [lv1, lv2, lv3, lv4, lv5, lv6, Bool.not_true, Bool.not_false] at h
    refine sr ?_; refine tlm ?_; refine tla ?_; refine tla ?_; refine nq ?_; refine tc_ret ?_; refine q_then_r ?_; exact ⟨_, _, res2 rfl rfl rfl, fun _ _ h => h, rfl, rfl⟩
  · (exfalso; first | (revert h; simp; done) | (simp at h; done) | (revert h; simp; omega) | (simp at h; omega) | omega)
theorem FromNo_c {A : SP} {a : Option Addr} {m c : Nat} (hno : fitsB (m : Nat) = false := by decide) (hm : m ≤ 140737488351232 := by omega) :
    Fn Tryz.prog 67 #[.slice a m c] (A) (fun r B => r = .tuple #[.pointer none, .int .i64 80] ∧ A = B) := by
  refine fn_enterW (args := [.slice a m c]) Tryz.func67 rfl Tryz.ntmps67 (by simp) ?_; refine sr ?_; refine tla ?_; refine tla ?_; refine nq ?_; refine sr ?_; refine tlm ?_; refine tv (o_len Tryz.underlying32 rfl) ?_; refine tl_c rfl (o_call bd6 rfl (NewNo_c)) ?_; rintro _ _ ⟨rfl, rfl⟩; refine tlm ?_; refine tv (o_extract rfl rfl) ?_; refine tv (o_extract rfl rfl) ?_; refine tla ?_; refine tla ?_; refine nq ?_; refine tc_seq ?_; refine sr ?_; refine tlm ?_; refine tv (o_nei rfl rfl) ?_; refine nq ?_; refine tc_cond rfl (fun h => ?_) (fun h => ?_)
  · try simp only [lv1, lv2, lv3, lv4, lv5, lv6, Bool.not_true, Bool.not_false] at h
    refine sr ?_; refine tlm ?_; refine tla ?_; refine tla ?_; refine nq ?_; refine tc_ret ?_; refine q_then_r ?_; exact ⟨_, _, res2 rfl rfl rfl, fun _ _ h => h, rfl, rfl⟩
  · (exfalso; first | (revert h; simp; done) | (simp at h; done) | (revert h; simp; omega) | (simp at h; omega) | omega)
end Go.Vl

set_option linter.unusedVariables false
set_option linter.unusedSimpArgs false
namespace Go.Vl
open Go Go.Proofs
theorem img_lt {s : DevS} : ∀ x ∈ imgS s, x < 256 := fun x hx => by
  unfold imgS img at hx
  obtain ⟨l, _, h⟩ := List.mem_flatMap.1 hx
  unfold lb at h
  obtain ⟨v, _, h⟩ := List.mem_flatMap.1 h
  exact le_bytes _ _ _ h
theorem imgS_len {s : DevS} (hw : WfD s) : (imgS s).length = s.ls.length * 64 := img_length hw.line
theorem img_sub {s : DevS} {p n : Nat} : ∀ x ∈ ((imgS s).drop p).take n, x < 256 := fun x hx => img_lt x (List.mem_of_mem_drop (List.mem_of_mem_take hx))
theorem nm_take0 (xs : List Nat) (n : Nat) : nm (((xs.take n).drop 0).take n) = nm (xs.take n) := by rw [List.drop_zero, List.take_take, Nat.min_self]
attribute [local irreducible] Sl pt ro Dev imgS
set_option maxRecDepth 20000 in
set_option maxHeartbeats 1000000 in
theorem FL64_ok {A R : SP} {C : SP → SP} {d : Nat} {s : DevS} (hc : Ct A (Dev d s) R C := by repeat (first | with_reducible exact ct_here | apply ct_left)) {p : Nat} (hoff : s.off = false) (hpm : p + 8 ≤ s.ls.length * 64) :
    Fn Tryz.prog 86 #[.agg [Value.int .i64 (p : Nat)].toArray, .pointer (some ⟨d, 0, none⟩)] (A) (fun r B => r = .tuple #[.int .u64 ((nm (((imgS s).drop p).take 8) : Nat) : Int), .int .i64 0] ∧ A = B) := by
  refine fn_enterW (args := [.agg [Value.int .i64 (p : Nat)].toArray, .pointer (some ⟨d, 0, none⟩)]) Tryz.func86 rfl Tryz.ntmps86 (by simp) ?_; refine tc_have (fun _ _ h => ct_wf2 hc h) fun hw => ?_
  obtain ⟨rfl, hC⟩ := hc
  have htop := hw.top
  have hil : (imgS s).length = s.ls.length * 64 := imgS_len hw
  have hI : (((imgS s).drop p).take 8).length = 8 := by rw [List.length_take, List.length_drop]; omega
  have hIb := img_sub (s := s) (p := p) (n := 8)
  refine sr ?_; refine tl_x rfl (o_box rfl rfl) ?_; rintro _ _ ⟨b2, rfl, rfl⟩; refine tla ?_; refine tla ?_; refine nq ?_; refine sr ?_; refine tla ?_; refine nq ?_; refine tc_seq ?_; refine tc_regh mo dr_refl ?_
  show TH _ _ _ _ _ 12 #[ff,ff,ff,ff,ff,ff,ff,ff,ff,ff,ff,ff] _ _
  refine th_take (i := 0) (listed' := #[tt,ff,ff,ff,ff,ff,ff,ff,ff,ff,ff,ff]) rfl (by kernel_rfl) (by kernel_rfl) (by kernel_rfl) rfl rfl (o_move (by conv => lhs; whnf)) ?_; refine th_take (i := 1) (listed' := #[tt,tt,ff,ff,ff,ff,ff,ff,ff,ff,ff,ff]) rfl (by kernel_rfl) (by kernel_rfl) (by kernel_rfl) rfl rfl (o_fieldAddr (o := 0) Tryz.underlying122 rfl rfl sz3 rfl) ?_; refine th_take (i := 2) (listed' := #[tt,tt,tt,ff,ff,ff,ff,ff,ff,ff,ff,ff]) rfl (by kernel_rfl) (by kernel_rfl) (by kernel_rfl) rfl rfl (by first | exact o_load p3 rfl (by repeat (first | with_reducible exact has_here | with_reducible exact has_pt | apply has_left)) rfl | exact o_loadC p3 rfl (by assumption)) ?_; refine th_take (i := 3) (listed' := #[tt,tt,tt,tt,ff,ff,ff,ff,ff,ff,ff,ff]) rfl (by kernel_rfl) (by kernel_rfl) (by kernel_rfl) rfl rfl (o_move (by conv => lhs; whnf)) ?_; refine th_one (i := 4) (by kernel_rfl) ?_; refine oh_c (i := 4) (listed' := #[tt,tt,tt,tt,tt,ff,ff,ff,ff,ff,ff,ff]) rfl rfl rfl (o_call bd98 rfl (Put64_c (xs := []) (v := 0))) ?_; rintro _ _ ⟨a14, c14, rfl, hc14, rfl⟩; refine ⟨by repeat (first | with_reducible exact dr_refl | apply dr_keep | apply dr_drop), ?_⟩; refine th_take (i := 5) (listed' := #[tt,tt,tt,tt,tt,tt,ff,ff,ff,ff,ff,ff]) rfl (by kernel_rfl) (by kernel_rfl) (by kernel_rfl) rfl rfl (o_len Tryz.underlying32 rfl) ?_; refine th_one (i := 6) (by kernel_rfl) ?_; refine oh_c (i := 6) (listed' := #[tt,tt,tt,tt,tt,tt,tt,ff,ff,ff,ff,ff]) rfl rfl rfl (o_call bd74 rfl (Load_c (s := s) (p := p) (m := 8))) ?_
  rintro _ _ ⟨a16, c16, rfl, hc16, rfl⟩; refine ⟨by repeat (first | with_reducible exact dr_refl | apply dr_keep | apply dr_drop), ?_⟩; refine th_take (i := 7) (listed' := #[tt,tt,tt,tt,tt,tt,tt,tt,ff,ff,ff,ff]) rfl (by kernel_rfl) (by kernel_rfl) (by kernel_rfl) rfl rfl (o_move (by conv => lhs; whnf)) ?_; refine th_take (i := 8) (listed' := #[tt,tt,tt,tt,tt,tt,tt,tt,tt,ff,ff,ff]) rfl (by kernel_rfl) (by kernel_rfl) (by kernel_rfl) rfl rfl (o_extract rfl rfl) ?_; refine th_take (i := 9) (listed' := #[tt,tt,tt,tt,tt,tt,tt,tt,tt,tt,ff,ff]) rfl (by kernel_rfl) (by kernel_rfl) (by kernel_rfl) rfl rfl (o_extract rfl rfl) ?_; refine th_take (i := 10) (listed' := #[tt,tt,tt,tt,tt,tt,tt,tt,tt,tt,tt,ff]) rfl (by kernel_rfl) (by kernel_rfl) (by kernel_rfl) rfl rfl (o_assign (by conv => lhs; whnf)) ?_; refine th_take (i := 11) (listed' := #[tt,tt,tt,tt,tt,tt,tt,tt,tt,tt,tt,tt]) rfl (by kernel_rfl) (by kernel_rfl) (by kernel_rfl) rfl rfl (o_assign (by conv => lhs; whnf)) ?_; refine th_done (by kernel_rfl) ?_; refine q_then_n ?_; refine tc_seq ?_; refine sr ?_; refine tlm ?_; refine tv (o_nei rfl rfl) ?_; refine nq ?_; refine tc_cond rfl (fun h => ?_) (fun h => ?_)
  · exfalso; simp at h
  · try simp only [lv1, lv2, lv3, lv4, lv5, lv6, Bool.not_true, Bool.not_false] at h
    refine tc_skip ?_; refine q_then_n ?_; refine sr ?_; refine tlm ?_; refine tl_c rfl (o_call bd99 rfl (Take64_c (xs := ((imgS s).drop p).take 8) (p := 0) (hm := hI))) ?_; rintro _ _ ⟨rfl, rfl⟩; refine tv (o_extract rfl rfl) ?_; refine tv (o_extract rfl rfl) ?_; refine tla ?_; refine tla ?_; refine nq ?_; refine tc_ret ?_; exact ⟨.tuple #[.int .u64 ((nm (((imgS s).drop p).take 8) : Nat) : Int), .int .i64 0], R * Dev d s, res2 rfl (congrArg (fun z : Nat => Value.int .u64 (z : Int)) (nm_take0 _ _)) rfl, Dr.sat (by repeat (first | with_reducible exact dr_refl | apply dr_keep | apply dr_drop)), rfl, rfl⟩
set_option maxRecDepth 20000 in
set_option maxHeartbeats 1000000 in
theorem FL64_no {A R : SP} {C : SP → SP} {d : Nat} {s : DevS} (hc : Ct A (Dev d s) R C := by repeat (first | with_reducible exact ct_here | apply ct_left)) {p : Int} (hp : -9223372036854775808 ≤ p ∧ p ≤ 9223372036854775807 := by omega) (hno : rdy s.ls.length s.off p 8 ≠ 0) :
    Fn Tryz.prog 86 #[.agg [Value.int .i64 p].toArray, .pointer (some ⟨d, 0, none⟩)] (A) (fun r B => r = .tuple #[.int .u64 0, .int .i64 (rdy s.ls.length s.off p 8)] ∧ A = B) := by
  refine fn_enterW (args := [.agg [Value.int .i64 p].toArray, .pointer (some ⟨d, 0, none⟩)]) Tryz.func86 rfl Tryz.ntmps86 (by simp) ?_
  obtain ⟨rfl, hC⟩ := hc
  refine sr ?_; refine tl_x rfl (o_box rfl rfl) ?_; rintro _ _ ⟨b2, rfl, rfl⟩; refine tla ?_; refine tla ?_; refine nq ?_; refine sr ?_; refine tla ?_; refine nq ?_; refine tc_seq ?_; refine tc_regh mo dr_refl ?_
  show TH _ _ _ _ _ 12 #[ff,ff,ff,ff,ff,ff,ff,ff,ff,ff,ff,ff] _ _
  refine th_take (i := 0) (listed' := #[tt,ff,ff,ff,ff,ff,ff,ff,ff,ff,ff,ff]) rfl (by kernel_rfl) (by kernel_rfl) (by kernel_rfl) rfl rfl (o_move (by conv => lhs; whnf)) ?_; refine th_take (i := 1) (listed' := #[tt,tt,ff,ff,ff,ff,ff,ff,ff,ff,ff,ff]) rfl (by kernel_rfl) (by kernel_rfl) (by kernel_rfl) rfl rfl (o_fieldAddr (o := 0) Tryz.underlying122 rfl rfl sz3 rfl) ?_; refine th_take (i := 2) (listed' := #[tt,tt,tt,ff,ff,ff,ff,ff,ff,ff,ff,ff]) rfl (by kernel_rfl) (by kernel_rfl) (by kernel_rfl) rfl rfl (by first | exact o_load p3 rfl (by repeat (first | with_reducible exact has_here | with_reducible exact has_pt | apply has_left)) rfl | exact o_loadC p3 rfl (by assumption)) ?_; refine th_take (i := 3) (listed' := #[tt,tt,tt,tt,ff,ff,ff,ff,ff,ff,ff,ff]) rfl (by kernel_rfl) (by kernel_rfl) (by kernel_rfl) rfl rfl (o_move (by conv => lhs; whnf)) ?_; refine th_one (i := 4) (by kernel_rfl) ?_; refine oh_c (i := 4) (listed' := #[tt,tt,tt,tt,tt,ff,ff,ff,ff,ff,ff,ff]) rfl rfl rfl (o_call bd98 rfl (Put64_c (xs := []) (v := 0))) ?_; rintro _ _ ⟨a14, c14, rfl, hc14, rfl⟩; refine ⟨by repeat (first | with_reducible exact dr_refl | apply dr_keep | apply dr_drop), ?_⟩; refine th_take (i := 5) (listed' := #[tt,tt,tt,tt,tt,tt,ff,ff,ff,ff,ff,ff]) rfl (by kernel_rfl) (by kernel_rfl) (by kernel_rfl) rfl rfl (o_len Tryz.underlying32 rfl) ?_; refine th_one (i := 6) (by kernel_rfl) ?_; refine oh_c (i := 6) (listed' := #[tt,tt,tt,tt,tt,tt,tt,ff,ff,ff,ff,ff]) rfl rfl rfl (o_call bd74 rfl (LoadNo_c (s := s) (p := p) (m := 8))) ?_
  rintro _ _ ⟨rfl, rfl⟩; refine ⟨by repeat (first | with_reducible exact dr_refl | apply dr_keep | apply dr_drop), ?_⟩; refine th_take (i := 7) (listed' := #[tt,tt,tt,tt,tt,tt,tt,tt,ff,ff,ff,ff]) rfl (by kernel_rfl) (by kernel_rfl) (by kernel_rfl) rfl rfl (o_move (by conv => lhs; whnf)) ?_; refine th_take (i := 8) (listed' := #[tt,tt,tt,tt,tt,tt,tt,tt,tt,ff,ff,ff]) rfl (by kernel_rfl) (by kernel_rfl) (by kernel_rfl) rfl rfl (o_extract rfl rfl) ?_; refine th_take (i := 9) (listed' := #[tt,tt,tt,tt,tt,tt,tt,tt,tt,tt,ff,ff]) rfl (by kernel_rfl) (by kernel_rfl) (by kernel_rfl) rfl rfl (o_extract rfl rfl) ?_; refine th_take (i := 10) (listed' := #[tt,tt,tt,tt,tt,tt,tt,tt,tt,tt,tt,ff]) rfl (by kernel_rfl) (by kernel_rfl) (by kernel_rfl) rfl rfl (o_assign (by conv => lhs; whnf)) ?_; refine th_take (i := 11) (listed' := #[tt,tt,tt,tt,tt,tt,tt,tt,tt,tt,tt,tt]) rfl (by kernel_rfl) (by kernel_rfl) (by kernel_rfl) rfl rfl (o_assign (by conv => lhs; whnf)) ?_; refine th_done (by kernel_rfl) ?_; refine q_then_n ?_; refine tc_seq ?_; refine sr ?_; refine tlm ?_; refine tv (o_nei rfl rfl) ?_; refine nq ?_; refine tc_cond rfl (fun h => ?_) (fun h => ?_)
  · try simp only [lv1, lv2, lv3, lv4, lv5, lv6, Bool.not_true, Bool.not_false] at h
    refine sr ?_; refine tlm ?_; refine tla ?_; refine tla ?_; refine nq ?_; refine tc_ret ?_; refine q_then_r ?_; exact ⟨.tuple #[.int .u64 0, .int .i64 (rdy s.ls.length s.off p 8)], R * Dev d s, res2 rfl rfl rfl, Dr.sat (by repeat (first | with_reducible exact dr_refl | apply dr_keep | apply dr_drop)), rfl, rfl⟩
  · exfalso; exact hno (by simpa using h)
theorem FL64_c {A R : SP} {C : SP → SP} {d : Nat} {s : DevS} (hc : Ct A (Dev d s) R C := by repeat (first | with_reducible exact ct_here | apply ct_left)) {p : Int} (hp : -9223372036854775808 ≤ p ∧ p ≤ 9223372036854775807 := by omega) : Fn Tryz.prog 86 #[.agg [Value.int .i64 p].toArray, .pointer (some ⟨d, 0, none⟩)] A (fun r B => r = .tuple #[.int .u64 (((loadP p 8 s).1 : Nat) : Int), .int .i64 (loadP p 8 s).2] ∧ A = B) := by
  by_cases h : rdy s.ls.length s.off p 8 = 0
  · have h0 := rdy0 h
    obtain ⟨q, rfl⟩ := Int.eq_ofNat_of_zero_le h0.2.1
    have e : loadP (q : Int) 8 s = (nm (((imgS s).drop q).take 8), 0) := by unfold loadP; rw [if_neg (by simpa using h)]; rfl
    rw [e]; exact FL64_ok hc h0.1 (by omega)
  · have e : loadP p 8 s = (0, rdy s.ls.length s.off p 8) := by unfold loadP; rw [if_pos (by simpa using h)]; rfl
    rw [e]; exact FL64_no hc hp (by simpa using h)
set_option maxRecDepth 20000 in
set_option maxHeartbeats 1000000 in
theorem Word_c {A R : SP} {C : SP → SP} {d : Nat} {s : DevS} (hc : Ct A (Dev d s) R C := by repeat (first | with_reducible exact ct_here | apply ct_left)) {p : Int} (hp : -9223372036854775808 ≤ p ∧ p ≤ 9223372036854775807 := by omega) :
    Fn Tryz.prog 28 #[.pointer (some ⟨d, 0, none⟩), .int .i64 p] (A) (fun r B => r = .tuple #[.int .u64 (((wordP p s).1 : Nat) : Int), .int .i64 (wordP p s).2] ∧ A = B) := by
  refine fn_enterW (args := [.pointer (some ⟨d, 0, none⟩), .int .i64 p]) Tryz.func28 rfl Tryz.ntmps28 (by simp) ?_; refine sr ?_; refine tla ?_; refine tla ?_; refine nq ?_; refine tc_seq ?_; refine sr ?_; refine tlm ?_; refine tl_c rfl (o_call bd75 rfl (alive_c hc)) ?_; rintro _ _ ⟨rfl, rfl⟩; refine tla ?_; refine nq ?_; refine sr ?_; refine tlm ?_; refine tv (o_nei rfl rfl) ?_; refine nq ?_; refine tc_cond rfl (fun h => ?_) (fun h => ?_)
  · try simp only [lv1, lv2, lv3, lv4, lv5, lv6, Bool.not_true, Bool.not_false] at h
    refine sr ?_; refine tlm ?_; refine tla ?_; refine tla ?_; refine nq ?_; refine tc_ret ?_; refine q_then_r ?_
    have ho := stE_off h
    have e : wordP p s = (0, 5) := by unfold wordP; rw [if_pos ho]
    have e2 : stE s = 5 := by unfold stE; rw [if_pos ho]
    rw [e]
    exact ⟨.tuple #[.int .u64 0, .int .i64 5], A, res2 rfl rfl (congrArg (Value.int .i64) e2), fun _ _ h => h, rfl, rfl⟩
  · have ho : s.off = false := stE_on (by simpa using h)
    refine tc_skip ?_; refine q_then_n ?_; refine tc_seq ?_; refine sr ?_; refine tlm ?_; refine tv (o_rem rfl rfl (by decide)) ?_; refine tv (o_nei rfl rfl) ?_; refine nq ?_; refine tc_cond rfl (fun h => ?_) (fun h => ?_)
    · try simp only [lv1, lv2, lv3, lv4, lv5, lv6, Bool.not_true, Bool.not_false] at h
      refine sr ?_; refine tla ?_; refine tla ?_; refine nq ?_; refine tc_ret ?_; refine q_then_r ?_
      have e : wordP p s = (0, 6) := by unfold wordP; rw [if_neg (by rw [ho]; decide), if_pos (fun e => h (by rw [Int.tmod_eq_zero_of_dvd (Int.dvd_of_emod_eq_zero e)]))]
      rw [e]
      exact ⟨.tuple #[.int .u64 0, .int .i64 6], A, res2 rfl rfl rfl, fun _ _ h => h, rfl, rfl⟩
    · try simp only [lv1, lv2, lv3, lv4, lv5, lv6, Bool.not_true, Bool.not_false] at h
      refine tc_skip ?_; refine q_then_n ?_; refine sr ?_; refine tlm ?_; refine tv (o_bS (l := [Value.int .i64 p]) (pv_cons (by conv => lhs; whnf) pv_nil) Tryz.underlying122 z122 (pl122 Tryz.underlying122) rfl) ?_; refine tlm ?_; refine tl_c rfl (o_call bd86 rfl (FL64_c hc (p := p))) ?_; rintro _ _ ⟨rfl, rfl⟩; refine tv (o_extract rfl rfl) ?_; refine tv (o_extract rfl rfl) ?_; refine tla ?_; refine tla ?_; refine nq ?_; refine tc_ret ?_
      have e : wordP p s = loadP p 8 s := by unfold wordP; rw [if_neg (by rw [ho]; decide), if_neg (fun e => e (Int.emod_eq_zero_of_dvd (Int.dvd_of_tmod_eq_zero (by simpa using h))))]
      rw [e]
      exact ⟨_, A, res2 rfl rfl rfl, Dr.sat (by repeat (first | with_reducible exact dr_refl | apply dr_keep | apply dr_drop)), rfl, rfl⟩
set_option maxRecDepth 20000 in
set_option maxHeartbeats 1000000 in
theorem aliveZ_c {A : SP} {v : Value}  (h0 : NoD A v := by assumption) :
    Fn Tryz.prog 75 #[v] (A) (fun r B => r = .int .i64 1 ∧ A = B) := by
  refine fn_enterW (args := [v]) Tryz.func75 rfl Tryz.ntmps75 (by simp) ?_; refine sr ?_; refine tla ?_; refine nq ?_; refine sr ?_; refine tlm ?_; refine tl_c rfl (o_call bd74 rfl (LoadZ_c)) ?_; rintro _ _ ⟨rfl, rfl⟩; refine tlm ?_; refine tv (o_extract rfl rfl) ?_; refine tv (o_extract rfl rfl) ?_; refine tla ?_; refine tla ?_; refine nq ?_; refine sr ?_; refine tlm ?_; refine tla ?_; refine nq ?_; refine tc_ret ?_; exact ⟨_, _, res1 rfl rfl, fun _ _ h => h, rfl, rfl⟩
set_option maxRecDepth 20000 in
set_option maxHeartbeats 1000000 in
theorem RangeZ_c {A : SP} {v : Value} {p m : Int} (h0 : NoD A v := by assumption) :
    Fn Tryz.prog 23 #[v, .int .i64 p, .int .i64 m] (A) (fun r B => r = .int .i64 1 ∧ A = B) := by
  refine fn_enterW (args := [v, .int .i64 p, .int .i64 m]) Tryz.func23 rfl Tryz.ntmps23 (by simp) ?_; refine sr ?_; refine tla ?_; refine nq ?_; refine tc_seq ?_; refine sr ?_; refine tlm ?_; refine tl_c rfl (o_call bd75 rfl (aliveZ_c)) ?_; rintro _ _ ⟨rfl, rfl⟩; refine tla ?_; refine nq ?_; refine sr ?_; refine tlm ?_; refine tv (o_nei rfl rfl) ?_; refine nq ?_; refine tc_cond rfl (fun h => ?_) (fun h => ?_)
  · try simp only [lv1, lv2, lv3, lv4, lv5, lv6, Bool.not_true, Bool.not_false] at h
    refine sr ?_; refine tlm ?_; refine tla ?_; refine nq ?_; refine tc_ret ?_; refine q_then_r ?_; exact ⟨_, _, res1 rfl rfl, fun _ _ h => h, rfl, rfl⟩
  · (exfalso; first | (revert h; simp; done) | (simp at h; done) | (revert h; simp; omega) | (simp at h; omega) | omega)
end Go.Vl

set_option linter.unusedVariables false
set_option linter.unusedSimpArgs false
namespace Go.Vl
open Go Go.Proofs
def wk1 : DevS := (bytesP 60 [1, 1, 1, 1, 1, 1, 1, 1] (newS 2)).2
def wk2 : DevS := (pubP 8 258 wk1).2
def wk3 : DevS := (crS [] wk2).2
def wk4 : DevS := { wk3 with off := false }
attribute [local irreducible] Sl pt ro Dev imgS
def nk1 : DevS := (crS [] (newS 1)).2
end Go.Vl

set_option linter.unusedVariables false
set_option linter.unusedSimpArgs false
namespace Go.Vl
open Go Go.Proofs
theorem o_apGr {P : Program} {n : Nat} {ρ : Env} {A : SP} {dst : Option Tmp} {ty : TypeId} {pos : String} {after : Array Edge} {gd : Option (Nat × Bool)} {t t' e e' : TypeId} {x y : Operand} {v z : Value} {p m q bytes c c0 b : Nat} {a : Option Addr} {os xs ys zs : List Value} {A0 R : SP} {C : SP → SP} {E : TypeId}
    (hu : P.underlying t = some (.slice e)) (hu' : P.underlying t' = some (.slice e')) (hk : szE P e = some 1) (hb : bytesE P e = some bytes) (hz : zeroE P e = some z) (hzk : z.cells.size = 1) (hb0 : 0 < bytes)
    (hx : ev n ρ x = .slice a q c0) (hy : ev n ρ y = .slice (some ⟨b, 0, none⟩) m c) (hA : A = A0 * pt b (cl ys E)) (hf : Ct A0 (Gr v p os (.slice a q c0) q xs) R C) (hm : ys.length = m) (ho : ys.all oneC = true) (hlim : (q + m) * bytes ≤ 140737488355328) (he : xs ++ ys = zs) :
    OpX P n ρ A ⟨dst, .call { callee := .builtin .append, args := #[x, y], argTypes := #[t, t'] }, ty, pos, after, gd⟩ (fun v' B => ∃ a' c', v' = .slice a' (q + m) c' ∧ q + m ≤ c' ∧ B = C (Gr v p os (.slice a' (q + m) c') (q + m) zs)) := fun g w hs => by
  subst he
  obtain ⟨rfl, hC⟩ := hf
  obtain ⟨v', w', B, hr, hB, rfl⟩ := o_appendGr (dst := dst) (ty := ty) (pos := pos) (after := after) (gd := gd) (R := R * pt b (cl ys E)) hu hu' hk hb hz hzk hb0 hx hy (by rw [hA, star_swap])
    (rd_cells (cells_of_has (k := ys.length) (by rw [hA]; exact has_here) (by simp))) hm (fun u hu => List.all_eq_true.1 ho u hu) hlim g w hs
  have hB2 : sat g w' (R * Gr v p os v' (q + m) (xs ++ ys)) := hB.drop2
  obtain ⟨_, _, a', c', _, e2, _, _, _, g2, _⟩ := gr_have hB2
  subst e2
  exact ⟨_, w', _, hr, hB2, a', c', rfl, g2, (hC _).symm⟩
/-- The mark of a place. -/
def mk (i k : Nat) : Nat := (i * 31 + k * 7 + 1) % 256
/-- The marks of a list. -/
def mks (i n : Nat) : List Nat := (List.range n).map (mk i)
theorem mks_length (i n : Nat) : (mks i n).length = n := by simp [mks]
theorem mks_succ (i n : Nat) : mks i (n + 1) = mks i n ++ [mk i n] := by simp [mks, List.range_succ]
theorem mks_at {i n k : Nat} (h : k < n) : (bys (mks i n))[k]? = some (.int .u8 ((mk i k : Nat) : Int)) := by simp [bys, mks, h, b8]
theorem mks_pm (i : Nat) (l : List Nat) : pm (fun k _ => mk i k) l.length l = mks i l.length := by
  rw [pm_all]
  apply List.ext_getElem?
  intro j
  simp only [mks, List.getElem?_mapIdx, List.getElem?_map, List.getElem?_range']
  rcases Nat.lt_or_ge j l.length with h | h
  · simp [h]
  · simp [h]
def mkL (j : Nat) (l : List Nat) : List Nat := mks j l.length
/-- Lists that bear their marks; the first of them is number j. -/
def PM : Nat → List Value → List Nat → SP
  | j, v :: vs, n :: ns => PM (j + 1) vs ns * Sl 1 v n (bys (mks j n))
  | _, [], [] => emp
  | _, _, _ => pure_ False
/-- Such lists, and what they were grown to. -/
def GP : Nat → List Value → List Value → List Nat → SP
  | j, v :: vs, g :: gs, n :: ns => GP (j + 1) vs gs ns * Gr v n (bys (mks j n)) g (n + 70) (bys (mks j (n + 70)))
  | _, [], [], [] => emp
  | _, _, _, _ => pure_ False
theorem parts_PM : ∀ {vs : List Value} {ls : List (List Nat)} {j : Nat}, vs.length = ls.length → Parts vs (ls.mapIdx fun i l => mks (j + i) l.length) = PM j vs (ls.map List.length)
  | [], [], _, _ => rfl
  | v :: vs, l :: ls, j, h => by
    have ih := parts_PM (vs := vs) (ls := ls) (j := j + 1) (by simpa using h)
    rw [List.mapIdx_cons]
    show Parts vs (ls.mapIdx fun i l => mks (j + (i + 1)) l.length) * Sl 1 v (mks (j + 0) l.length).length (bys (mks (j + 0) l.length)) = PM (j + 1) vs (ls.map List.length) * Sl 1 v l.length (bys (mks j l.length))
    rw [mks_length, Nat.add_zero, ← ih]
    congr 2
    apply List.ext_getElem?
    intro i
    simp only [List.getElem?_mapIdx, show j + (i + 1) = j + 1 + i by omega]
theorem GP_snoc : ∀ {vs gs : List Value} {ns : List Nat} {j : Nat} {v g : Value} {n : Nat} (_ : vs.length = ns.length) (_ : gs.length = ns.length), GP j (vs ++ [v]) (gs ++ [g]) (ns ++ [n]) = GP j vs gs ns * Gr v n (bys (mks (j + ns.length) n)) g (n + 70) (bys (mks (j + ns.length) (n + 70)))
  | [], [], [], _, _, _, _, _, _ => rfl
  | [], _ :: _, [], _, _, _, _, _, h => by simp at h
  | [], _ :: _, _ :: _, _, _, _, _, h, _ => by simp at h
  | [], [], _ :: _, _, _, _, _, h, _ => by simp at h
  | _ :: _, [], [], _, _, _, _, h, _ => by simp at h
  | _ :: _, [], _ :: _, _, _, _, _, _, h => by simp at h
  | _ :: _, _ :: _, [], _, _, _, _, h, _ => by simp at h
  | u :: vs, h :: gs, x :: ns, j, v, g, n, h1, h2 => by
    show GP (j + 1) (vs ++ [v]) (gs ++ [g]) (ns ++ [n]) * Gr u x _ h _ _ = _
    rw [GP_snoc (by simpa using h1) (by simpa using h2)]
    show _ = GP (j + 1) vs gs ns * Gr u x (bys (mks j x)) h (x + 70) (bys (mks j (x + 70))) * _
    rw [star_swap, List.length_cons, show j + 1 + ns.length = j + (ns.length + 1) by omega]
theorem GP_get : ∀ {vs gs : List Value} {ns : List Nat} {j i : Nat} (h1 : vs.length = ns.length) (h2 : gs.length = ns.length) (hi : i < ns.length), ∃ R, GP j vs gs ns = R * Gr (vs[i]'(by omega)) ns[i] (bys (mks (j + i) ns[i])) (gs[i]'(by omega)) (ns[i] + 70) (bys (mks (j + i) (ns[i] + 70)))
  | _, _, [], _, _, _, _, h => by simp at h
  | [], _, _ :: _, _, _, h, _, _ => by simp at h
  | _ :: _, [], _ :: _, _, _, _, h, _ => by simp at h
  | v :: vs, g :: gs, n :: ns, j, 0, _, _, _ => ⟨GP (j + 1) vs gs ns, rfl⟩
  | v :: vs, g :: gs, n :: ns, j, i + 1, h1, h2, hi => by
    obtain ⟨R, e⟩ := GP_get (vs := vs) (gs := gs) (ns := ns) (j := j + 1) (i := i) (by simpa using h1) (by simpa using h2) (by simpa using hi)
    refine ⟨R * Gr v n (bys (mks j n)) g (n + 70) (bys (mks j (n + 70))), ?_⟩
    show GP (j + 1) vs gs ns * _ = _
    rw [e, star_swap, show j + 1 + i = j + (i + 1) by omega]; rfl
theorem PM_at {vs : List Value} {ns : List Nat} {i : Nat} (h1 : vs.length = ns.length) (hi : i < ns.length) : PM i (vs.drop i) (ns.drop i) = PM (i + 1) (vs.drop (i + 1)) (ns.drop (i + 1)) * Sl 1 (vs[i]'(by omega)) ns[i] (bys (mks i ns[i])) := by
  rw [List.drop_eq_getElem_cons hi, List.drop_eq_getElem_cons (show i < vs.length by omega)]; rfl
theorem GP_read {X : SP} {vs gs : List Value} {ns : List Nat} {i : Nat} (h1 : vs.length = ns.length) (h2 : gs.length = ns.length) (hi : i < ns.length) {g : Gh} {w : World} (hs : sat g w (X * GP 0 vs gs ns)) :
    ∃ ai ci ag cg, vs[i]? = some (.slice ai ns[i] ci) ∧ gs[i]? = some (.slice ag (ns[i] + 70) cg) ∧ Rs (X * GP 0 vs gs ns) ai (bys (mks i ns[i])) ∧ Rs (X * GP 0 vs gs ns) ag (bys (mks i (ns[i] + 70))) := by
  obtain ⟨R, e⟩ := GP_get (j := 0) h1 h2 hi
  rw [e, ← star_assoc, Nat.zero_add] at hs ⊢
  obtain ⟨ai, ci, ag, cg, e1, e2, _, _, _, _, h3, h4⟩ := gr_have hs
  exact ⟨ai, ci, ag, cg, by rw [List.getElem?_eq_getElem (by omega), e1], by rw [List.getElem?_eq_getElem (by omega), e2], rs_rd h3, rs_rd h4⟩
theorem pm_mkL {ls : List (List Nat)} : pm mkL ls.length ls = ls.mapIdx fun i l => mks (0 + i) l.length := by
  rw [pm_all]
  apply List.ext_getElem?
  intro i
  simp only [List.getElem?_mapIdx, Nat.zero_add]; rfl
theorem parts_row {vs : List Value} {ls : List (List Nat)} {i : Nat} (h : vs.length = ls.length) (hi : i < ls.length) : ∃ R, (∀ A, A * Parts vs ls = A * R * Sl 1 (vs[i]'(by omega)) ls[i].length (bys ls[i])) ∧ ∀ A l, A * R * Sl 1 (vs[i]'(by omega)) l.length (bys l) = A * Parts vs (ls.set i l) := by
  obtain ⟨R, e1, e2⟩ := parts_get (vs := vs) (ls := ls) h hi
  refine ⟨R, fun A => by rw [e1, star_assoc], fun A l => ?_⟩
  have := e2 (vs[i]'(by omega)) l
  rw [set_getElem (by omega)] at this
  rw [this, star_assoc]
theorem gr_same' {v : Value} {n : Nat} {xs : List Value} {R : SP} : ∀ g w, sat g w (R * Sl 1 v n xs) → sat g w (R * Gr v n xs v n xs) := fun g w h => gr_same h
attribute [local irreducible] Sl SlR pt ro Parts Gr
theorem mark_c {A : SP} {i k : Nat} (h : i ≤ 1099511627776 ∧ k ≤ 1099511627776 := by omega) :
    Fn Tryz.prog 121 #[.int .i64 (i : Nat), .int .i64 (k : Nat)] (A) (fun r B => r = .int .u8 ((mk i k : Nat) : Int) ∧ A = B) := by
  refine fn_enterW (args := [.int .i64 (i : Nat), .int .i64 (k : Nat)]) Tryz.func121 rfl Tryz.ntmps121 (by simp) ?_; refine sr ?_; refine tla ?_; refine nq ?_; refine sr ?_; refine tlm ?_; refine tv (by first | exact o_mulI rfl rfl (by omega) | exact o_mul rfl rfl) ?_; refine tlm ?_; refine tv (by first | exact o_mulI rfl rfl (by omega) | exact o_mul rfl rfl) ?_; refine tv (by first | exact o_addI rfl rfl (by omega) | exact o_add rfl rfl) ?_; refine tv (by first | exact o_addI rfl rfl (by omega) | exact o_add rfl rfl) ?_; refine tl_env (d := 10) (v := .int .i64 ((i * 31 + k * 7 + 1 : Nat) : Int)) (rfl) ?_; refine tv (by first | exact o_conv8 Tryz.underlying3 Tryz.underlying5 rfl | exact o_conv Tryz.underlying3 Tryz.underlying5 rfl) ?_; refine tla ?_; refine nq ?_; refine tc_ret ?_; exact ⟨.int .u8 (((i * 31 + k * 7 + 1) % 256 : Nat) : Int), A, res1 rfl rfl, fun _ _ h => h, rfl, rfl⟩
set_option maxRecDepth 20000 in
set_option maxHeartbeats 1000000 in
theorem Apart_c {F : SP} {a : Option Addr} {m c : Nat} {vs : List Value} (ls : List (List Nat)) (hm : ls.length = m) (hl : m ≤ 1048576) (hls : ∀ l ∈ ls, l.length ≤ 137438953472) :
    Fn Tryz.prog 65 #[.slice a m c] (F * Parts vs ls * Sl 1 (.slice a m c) m vs) (fun r B => r = .bool true ∧ B = F) := by
  have hE := @fn_enterW Tryz.prog 65 Tryz.f65 _ [.slice a m c] (F * Parts vs ls * Sl 1 (.slice a m c) m vs) (fun r B => r = .bool true ∧ B = F) _ Tryz.func65 rfl Tryz.ntmps65 (by simp)
  refine hE ?_
  clear hE
  refine tc_have (fun _ _ h => parts_len h.left) fun hvl => ?_
  rw [star_swap]
  refine sr ?_; refine tla ?_; refine nq ?_; refine tc_seq ?_; refine sr ?_; refine tla ?_; refine nq ?_; refine tc_block ?_; refine tc_loop (fun kk ρ BB => ∃ (i : Nat), (i ≤ m) ∧ kk = m - i ∧ ρ 3 = .int .i64 (i : Nat) ∧ ρ 0 = .slice a m c ∧ BB = F * Sl 1 (.slice a m c) m vs * Parts vs (pm mkL i ls)) (m := m - (0)) ?_ ?_
  · exact ⟨0, by omega, rfl, rfl, rfl, by rw [pm_zero]⟩
  · intro k ρ B hI
    obtain ⟨i, hp0, hkk1, hE3, hE0, rfl⟩ := hI
    refine tc_env (d := 3) hE3 ?_; refine tc_env (d := 0) hE0 ?_
    clear hE3 hE0
    refine tc_seq ?_; refine sr ?_; refine tlm ?_; refine tlm ?_; refine tv (o_len Tryz.underlying88 rfl) ?_; refine tv (o_lss rfl rfl) ?_; refine nq ?_; refine tc_cond rfl (fun h => ?_) (fun h => ?_)
    · have hi : i < ls.length := by simp at h; omega
      have hip : i < (pm mkL i ls).length := by rw [pm_length]; exact hi
      obtain ⟨R, hR1, hR2⟩ := parts_row (vs := vs) (ls := pm mkL i ls) (i := i) (by rw [pm_length]; exact hvl) hip
      rw [pm_at mkL hi] at hR1
      have hlsi := hls _ (List.getElem_mem hi)
      refine tc_eq (hR1 _) ?_; refine tc_have (fun _ _ h => sl_have h) fun ⟨ai, ci, hvi, hci, _, _⟩ => ?_
      rw [hvi]
      have hvi2 : vs[i]? = some (.slice ai ls[i].length ci) := by rw [List.getElem?_eq_getElem (by omega), hvi]
      refine tc_skip ?_; refine q_then_n ?_; refine tc_seq ?_; refine tc_block ?_; refine sr ?_; refine tla ?_; refine nq ?_; refine tc_block ?_; refine tc_loop (fun kk ρ BB => ∃ (k : Nat), (k ≤ ls[i].length) ∧ kk = ls[i].length - k ∧ ρ 4 = .int .i64 (k : Nat) ∧ ρ 0 = .slice a m c ∧ ρ 3 = .int .i64 (i : Nat) ∧ BB = F * Sl 1 (.slice a m c) m vs * R * Sl 1 (.slice ai ls[i].length ci) ls[i].length (bys (pm (fun k _ => mk i k) k ls[i]))) (m := ls[i].length - (0)) ?_ ?_
      · exact ⟨0, by omega, rfl, rfl, rfl, rfl, by rw [pm_zero]⟩
      · intro k ρ B hI
        obtain ⟨k, hp0, hkk2, hE4, hE0, hE3, rfl⟩ := hI
        refine tc_env (d := 4) hE4 ?_; refine tc_env (d := 0) hE0 ?_; refine tc_env (d := 3) hE3 ?_
        clear hE4 hE0 hE3
        refine tc_seq ?_; refine sr ?_; refine tlm ?_; refine tlm ?_; refine tlm ?_; refine tv (o_ixP1 Tryz.underlying88 sz32 rfl rfl (by first | omega | (simp only [bys_length, ints_length, wds_length, bos_length, List.length_append, List.length_take, List.length_drop, List.length_singleton]; omega)) (by repeat (first | exact nn_some | with_reducible exact nn_sl (by decide) | exact nn_rs (by assumption) (fun _ => by first | omega | (simp only [bys_length, ints_length, wds_length, bos_length, List.length_append, List.length_take, List.length_drop, List.length_singleton]; omega)) | apply Nn.left))) ?_; refine tv (o_ldP p32 rfl (by repeat (first | assumption | with_reducible exact rs_sl | with_reducible exact rs_pt0 | exact rs_none | apply Rs.left)) (by first | assumption | exact bys_at (by omega) | exact ints_at (by omega) | exact wds_at (by omega) | exact bos_at (by omega) | rfl)) ?_; refine tv (o_len Tryz.underlying32 rfl) ?_; refine tv (o_lss rfl rfl) ?_; refine nq ?_; refine tc_cond rfl (fun h => ?_) (fun h => ?_)
        · have hk : k < ls[i].length := by simp at h; omega
          refine tc_have (fun g w h => nn_sl (by decide) g w h (show 0 < ls[i].length by omega)) fun ⟨bi, oi, ei⟩ => ?_
          subst ei
          refine tc_skip ?_; refine q_then_n ?_; refine tc_seq ?_; refine tc_block ?_; refine tc_regh (S := F * Sl 1 (.slice a m c) m vs * R) mo (by repeat (first | with_reducible exact dr_refl | apply dr_keep | apply dr_drop)) ?_
          show TH _ _ _ _ _ 10 #[ff,ff,ff,ff,ff,ff,ff,ff,ff,ff] _ _
          refine th_take (i := 0) (listed' := #[tt,ff,ff,ff,ff,ff,ff,ff,ff,ff]) rfl (by kernel_rfl) (by kernel_rfl) (by kernel_rfl) rfl rfl (o_move (by conv => lhs; whnf)) ?_; refine th_take (i := 1) (listed' := #[tt,tt,ff,ff,ff,ff,ff,ff,ff,ff]) rfl (by kernel_rfl) (by kernel_rfl) (by kernel_rfl) rfl rfl (o_move (by conv => lhs; whnf)) ?_; refine th_take (i := 2) (listed' := #[tt,tt,tt,ff,ff,ff,ff,ff,ff,ff]) rfl (by kernel_rfl) (by kernel_rfl) (by kernel_rfl) rfl rfl (o_ixP1 Tryz.underlying88 sz32 rfl rfl (by first | omega | (simp only [bys_length, ints_length, wds_length, bos_length, List.length_append, List.length_take, List.length_drop, List.length_singleton]; omega)) (by repeat (first | exact nn_some | with_reducible exact nn_sl (by decide) | exact nn_rs (by assumption) (fun _ => by first | omega | (simp only [bys_length, ints_length, wds_length, bos_length, List.length_append, List.length_take, List.length_drop, List.length_singleton]; omega)) | apply Nn.left))) ?_; refine th_take (i := 3) (listed' := #[tt,tt,tt,tt,ff,ff,ff,ff,ff,ff]) rfl (by kernel_rfl) (by kernel_rfl) (by kernel_rfl) rfl rfl (o_ldP p32 rfl (by repeat (first | assumption | with_reducible exact rs_sl | with_reducible exact rs_pt0 | exact rs_none | apply Rs.left)) (by first | assumption | exact bys_at (by omega) | exact ints_at (by omega) | exact wds_at (by omega) | exact bos_at (by omega) | rfl)) ?_; refine th_take (i := 4) (listed' := #[tt,tt,tt,tt,tt,ff,ff,ff,ff,ff]) rfl (by kernel_rfl) (by kernel_rfl) (by kernel_rfl) rfl rfl (o_move (by conv => lhs; whnf)) ?_
          refine th_take (i := 5) (listed' := #[tt,tt,tt,tt,tt,tt,ff,ff,ff,ff]) rfl (by kernel_rfl) (by kernel_rfl) (by kernel_rfl) rfl rfl (o_move (by conv => lhs; whnf)) ?_; refine th_take (i := 6) (listed' := #[tt,tt,tt,tt,tt,tt,tt,ff,ff,ff]) rfl (by kernel_rfl) (by kernel_rfl) (by kernel_rfl) rfl rfl (o_move (by conv => lhs; whnf)) ?_; refine th_one (i := 7) (by kernel_rfl) ?_; refine oh_c (i := 7) (listed' := #[tt,tt,tt,tt,tt,tt,tt,tt,ff,ff]) rfl rfl rfl (o_call bd121 rfl (mark_c)) ?_; rintro _ _ ⟨rfl, rfl⟩; refine ⟨by repeat (first | with_reducible exact dr_refl | apply dr_keep | apply dr_drop), ?_⟩; refine th_take (i := 8) (listed' := #[tt,tt,tt,tt,tt,tt,tt,tt,tt,ff]) rfl (by kernel_rfl) (by kernel_rfl) (by kernel_rfl) rfl rfl (o_ixP1 Tryz.underlying32 sz5 rfl rfl (by first | omega | (simp only [bys_length, ints_length, wds_length, bos_length, List.length_append, List.length_take, List.length_drop, List.length_singleton]; omega)) (by repeat (first | exact nn_some | with_reducible exact nn_sl (by decide) | exact nn_rs (by assumption) (fun _ => by first | omega | (simp only [bys_length, ints_length, wds_length, bos_length, List.length_append, List.length_take, List.length_drop, List.length_singleton]; omega)) | apply Nn.left))) ?_; refine th_one (i := 9) (by kernel_rfl) ?_; refine oh_u (i := 9) (listed' := #[tt,tt,tt,tt,tt,tt,tt,tt,tt,tt]) rfl rfl rfl (o_stP sz5 rfl rfl rfl (by repeat (first | with_reducible exact ct_here | apply ct_left)) (by omega) (by first | exact bys_set _ _ _ | exact ints_set _ _ _ | exact wds_set' _ _ _ | exact bos_set _ _ _ | rfl)) (by repeat (first | with_reducible exact dr_refl | apply dr_keep | apply dr_drop)) ?_
          refine th_done (by kernel_rfl) ?_; refine q_block_n (q_then_n ?_); refine tc_reg ?_; refine tlm ?_; refine tv (by first | exact o_addI rfl rfl (by omega) | exact o_add rfl rfl) ?_; refine tla ?_; refine nq ?_; exact ⟨_, by omega, k + 1, by omega, rfl, rfl, rfl, rfl, by rw [← pm_set (fun k _ => mk i k) hk]⟩
        · try simp only [lv1, lv2, lv3, lv4, lv5, lv6, Bool.not_true, Bool.not_false] at h
          refine tc_exit ?_; refine q_then_e (q_then_e (q_block_x (q_block_n (q_then_n ?_))))
          obtain rfl : k = ls[i].length := by omega
          refine tc_eq (show _ = F * Sl 1 (.slice a m c) m vs * Parts vs (pm mkL (i + 1) ls) by rw [← pm_set mkL hi, mks_pm]; have := hR2 (F * Sl 1 (.slice a m c) m vs) (mks i ls[i].length); rw [hvi, mks_length] at this; exact this) ?_; refine tc_reg ?_; refine tlm ?_; refine tv (by first | exact o_addI rfl rfl (by omega) | exact o_add rfl rfl) ?_; refine tla ?_; refine nq ?_; exact ⟨_, by omega, i + 1, by omega, rfl, rfl, rfl, rfl⟩
    · try simp only [lv1, lv2, lv3, lv4, lv5, lv6, Bool.not_true, Bool.not_false] at h
      refine tc_exit ?_; refine q_then_e (q_then_e (q_block_x (q_then_n ?_))); refine tc_seq ?_
      obtain rfl : i = ls.length := by omega
      rw [pm_mkL, parts_PM hvl]
      refine tc_reg ?_; refine tla ?_; refine nq ?_; refine tc_seq ?_; refine sr ?_; refine tla ?_; refine nq ?_; refine tc_block ?_; refine tc_pre (fun _ _ h => sl_nil (k := 1) h) ?_; refine tc_eq (show _ = F * Sl 1 (.slice a m c) m vs * GP 0 [] [] [] * PM 0 vs (ls.map List.length) * Sl 1 (.slice none 0 0) 0 [] by rw [show GP 0 [] [] [] = emp from rfl, star_emp]) ?_; refine tc_loop (fun kk ρ BB => ∃ (i : Nat) (a5 : Option Addr) (c5 : Nat) (gs : List Value), (i ≤ m) ∧ (gs.length = i) ∧ kk = m - i ∧ ρ 5 = .slice a5 i c5 ∧ ρ 6 = .int .i64 (i : Nat) ∧ ρ 0 = .slice a m c ∧ BB = F * Sl 1 (.slice a m c) m vs * GP 0 (vs.take i) gs ((ls.map List.length).take i) * PM i (vs.drop i) ((ls.map List.length).drop i) * Sl 1 (.slice a5 i c5) i gs) (m := m - (0)) ?_ ?_
      · exact ⟨0, none, 0, [], by omega, rfl, rfl, rfl, rfl, rfl, rfl⟩
      · intro k ρ B hI
        obtain ⟨i, a5, c5, gs, hp0, hp1, hkk3, hE5, hE6, hE0, rfl⟩ := hI
        refine tc_env (d := 5) hE5 ?_; refine tc_env (d := 6) hE6 ?_; refine tc_env (d := 0) hE0 ?_
        clear hE5 hE6 hE0
        refine tc_seq ?_; refine sr ?_; refine tlm ?_; refine tlm ?_; refine tv (o_len Tryz.underlying88 rfl) ?_; refine tv (o_lss rfl rfl) ?_; refine nq ?_; refine tc_cond rfl (fun h => ?_) (fun h => ?_)
        · have hi : i < ls.length := by simp at h; omega
          have hin : i < (ls.map List.length).length := by simpa using hi
          have hpm := PM_at (vs := vs) (ns := ls.map List.length) (by simpa using hvl) hin
          simp only [List.getElem_map] at hpm
          have hlsi := hls _ (List.getElem_mem hi)
          refine tc_eq (show _ = F * Sl 1 (.slice a m c) m vs * GP 0 (vs.take i) gs ((ls.map List.length).take i) * PM (i + 1) (vs.drop (i + 1)) ((ls.map List.length).drop (i + 1)) * Sl 1 (.slice a5 i c5) i gs * Sl 1 vs[i] ls[i].length (bys (mks i ls[i].length)) by rw [hpm]; ac_rfl) ?_; refine tc_have (fun _ _ h => sl_have h) fun ⟨ai, ci, hvi, hci, _, _⟩ => ?_
          rw [hvi]
          have hvi2 : vs[i]? = some (.slice ai ls[i].length ci) := by rw [List.getElem?_eq_getElem (by omega), hvi]
          refine tc_pre gr_same' ?_; refine tc_skip ?_; refine q_then_n ?_; refine tc_seq ?_; refine tc_block ?_; refine sr ?_; refine tlm ?_; refine tlm ?_; refine tv (o_ixP1 Tryz.underlying88 sz32 rfl rfl (by first | omega | (simp only [bys_length, ints_length, wds_length, bos_length, List.length_append, List.length_take, List.length_drop, List.length_singleton]; omega)) (by repeat (first | exact nn_some | with_reducible exact nn_sl (by decide) | exact nn_rs (by assumption) (fun _ => by first | omega | (simp only [bys_length, ints_length, wds_length, bos_length, List.length_append, List.length_take, List.length_drop, List.length_singleton]; omega)) | apply Nn.left))) ?_; refine tv (o_ldP p32 rfl (by repeat (first | assumption | with_reducible exact rs_sl | with_reducible exact rs_pt0 | exact rs_none | apply Rs.left)) (by first | assumption | exact bys_at (by omega) | exact ints_at (by omega) | exact wds_at (by omega) | exact bos_at (by omega) | rfl)) ?_; refine tla ?_; refine nq ?_; refine tc_seq ?_; refine sr ?_; refine tla ?_; refine nq ?_; refine tc_block ?_; refine tc_loop (fun kk ρ BB => ∃ (k : Nat) (a7 : Option Addr) (c7 : Nat), (k ≤ 70) ∧ kk = 70 - k ∧ ρ 7 = .slice a7 (ls[i].length + k) c7 ∧ ρ 8 = .int .i64 (k : Nat) ∧ ρ 0 = .slice a m c ∧ ρ 5 = .slice a5 i c5 ∧ ρ 6 = .int .i64 (i : Nat) ∧ BB = F * Sl 1 (.slice a m c) m vs * GP 0 (vs.take i) gs ((ls.map List.length).take i) * PM (i + 1) (vs.drop (i + 1)) ((ls.map List.length).drop (i + 1)) * Sl 1 (.slice a5 i c5) i gs * Gr (.slice ai ls[i].length ci) ls[i].length (bys (mks i ls[i].length)) (.slice a7 (ls[i].length + k) c7) (ls[i].length + k) (bys (mks i (ls[i].length + k)))) (m := 70 - (0)) ?_ ?_
          · exact ⟨0, ai, ci, by omega, rfl, rfl, rfl, rfl, rfl, rfl, rfl⟩
          · intro k ρ B hI
            obtain ⟨k, a7, c7, hp0, hkk4, hE7, hE8, hE0, hE5, hE6, rfl⟩ := hI
            refine tc_env (d := 7) hE7 ?_; refine tc_env (d := 8) hE8 ?_; refine tc_env (d := 0) hE0 ?_; refine tc_env (d := 5) hE5 ?_; refine tc_env (d := 6) hE6 ?_
            clear hE7 hE8 hE0 hE5 hE6
            refine tc_seq ?_; refine sr ?_; refine tlm ?_; refine tv (o_lss rfl rfl) ?_; refine nq ?_; refine tc_cond rfl (fun h => ?_) (fun h => ?_)
            · try simp only [lv1, lv2, lv3, lv4, lv5, lv6, Bool.not_true, Bool.not_false] at h
              refine tc_skip ?_; refine q_then_n ?_; refine tc_seq ?_; refine tc_block ?_; refine tc_reg ?_; refine tlm ?_; refine tlm ?_; refine tlm ?_; refine tlm ?_; refine tv (o_ixP1 Tryz.underlying88 sz32 rfl rfl (by first | omega | (simp only [bys_length, ints_length, wds_length, bos_length, List.length_append, List.length_take, List.length_drop, List.length_singleton]; omega)) (by repeat (first | exact nn_some | with_reducible exact nn_sl (by decide) | exact nn_rs (by assumption) (fun _ => by first | omega | (simp only [bys_length, ints_length, wds_length, bos_length, List.length_append, List.length_take, List.length_drop, List.length_singleton]; omega)) | apply Nn.left))) ?_; refine tv (o_ldP p32 rfl (by repeat (first | assumption | with_reducible exact rs_sl | with_reducible exact rs_pt0 | exact rs_none | apply Rs.left)) (by first | assumption | exact bys_at (by omega) | exact ints_at (by omega) | exact wds_at (by omega) | exact bos_at (by omega) | rfl)) ?_; refine tv (o_len Tryz.underlying32 rfl) ?_; refine tlm ?_; refine tv (by first | exact o_addI rfl rfl (by omega) | exact o_add rfl rfl) ?_; refine tl_env (d := 57) (v := .int .i64 ((ls[i].length + k : Nat) : Int)) (rfl) ?_; refine tl_c rfl (o_call bd121 rfl (mark_c)) ?_; rintro _ _ ⟨rfl, rfl⟩; refine tl_x rfl (o_buildSlice1 Tryz.underlying32 sz5 z5 (by conv => lhs; whnf) rfl) ?_
              rintro _ _ ⟨b59, rfl, rfl⟩; refine tl_x rfl (o_apGr Tryz.underlying32 Tryz.underlying32 sz5 by5 z5 rfl (by decide) rfl rfl rfl (by repeat (first | with_reducible exact ct_here | apply ct_left)) rfl rfl (by omega) (by rw [bys_sn, ← mks_succ])) ?_; rintro _ _ ⟨a60, c60, rfl, hc60, rfl⟩; refine tla ?_; refine tl_nil ?_; refine q_block_n (q_then_n ?_); refine tc_reg ?_; refine tlm ?_; refine tv (by first | exact o_addI rfl rfl (by omega) | exact o_add rfl rfl) ?_; refine tla ?_; refine nq ?_; exact ⟨_, by omega, k + 1, _, _, by omega, rfl, rfl, rfl, rfl, rfl, rfl, rfl⟩
            · try simp only [lv1, lv2, lv3, lv4, lv5, lv6, Bool.not_true, Bool.not_false] at h
              refine tc_exit ?_; refine q_then_e (q_then_e (q_block_x (q_then_n ?_)))
              obtain rfl : k = 70 := by omega
              refine tc_reg ?_; refine tlm ?_; refine tlm ?_; refine tl_x rfl (o_buildSlice1 Tryz.underlying88 sz32 z32 (by conv => lhs; whnf) rfl) ?_; rintro _ _ ⟨b63, rfl, rfl⟩; refine tl_x rfl (o_apB Tryz.underlying88 Tryz.underlying88 sz32 by32 z32 rfl (by decide) (by decide) rfl rfl rfl (by repeat (first | with_reducible exact ct_here | apply ct_left)) rfl rfl (by omega) rfl) ?_; rintro _ _ ⟨a64, c64, rfl, hc64, rfl⟩; refine tla ?_; refine tl_nil ?_; refine q_block_n (q_then_n ?_); refine tc_eq (show _ = F * Sl 1 (.slice a m c) m vs * GP 0 (vs.take (i + 1)) (gs ++ [.slice a7 (ls[i].length + 70) c7]) ((ls.map List.length).take (i + 1)) * PM (i + 1) (vs.drop (i + 1)) ((ls.map List.length).drop (i + 1)) * Sl 1 (.slice a64 (i + 1) c64) (i + 1) (gs ++ [.slice a7 (ls[i].length + 70) c7]) by rw [List.take_succ_eq_append_getElem (show i < vs.length by omega), List.take_succ_eq_append_getElem hin, GP_snoc (by simp; omega) (by simp; omega)]; simp only [List.length_take, List.length_map, Nat.min_eq_left (Nat.le_of_lt hi), Nat.zero_add, List.getElem_map, hvi]; ac_rfl) ?_; refine tc_reg ?_; refine tlm ?_; refine tv (by first | exact o_addI rfl rfl (by omega) | exact o_add rfl rfl) ?_; refine tla ?_; refine nq ?_; exact ⟨_, by omega, i + 1, _, _, _, by omega, by simp [hp1], rfl, rfl, rfl, rfl, rfl⟩
        · try simp only [lv1, lv2, lv3, lv4, lv5, lv6, Bool.not_true, Bool.not_false] at h
          refine tc_exit ?_; refine q_then_e (q_then_e (q_block_x (q_then_n ?_))); refine tc_seq ?_; refine tc_seq ?_
          obtain rfl : i = ls.length := by omega
          refine tc_eq (show _ = F * Sl 1 (.slice a m c) m vs * GP 0 vs gs (ls.map List.length) * Sl 1 (.slice a5 ls.length c5) ls.length gs by rw [List.take_of_length_le (by omega), List.take_of_length_le (by simp), List.drop_of_length_le (by omega), List.drop_of_length_le (by simp)]; show _ * emp * _ = _; rw [star_emp]) ?_; refine tc_reg ?_; refine tla ?_; refine nq ?_; refine tc_block ?_; refine tc_loop (fun kk ρ BB => ∃ (i : Nat), (i ≤ ls.length) ∧ kk = ls.length - i ∧ ρ 9 = .int .i64 (i : Nat) ∧ ρ 0 = .slice a m c ∧ ρ 5 = .slice a5 ls.length c5 ∧ BB = F * Sl 1 (.slice a m c) m vs * GP 0 vs gs (ls.map List.length) * Sl 1 (.slice a5 ls.length c5) ls.length gs) (m := ls.length - (0)) ?_ ?_
          · exact ⟨0, by omega, rfl, rfl, rfl, rfl, rfl⟩
          · intro k ρ B hI
            obtain ⟨i, hp0, hkk5, hE9, hE0, hE5, rfl⟩ := hI
            refine tc_env (d := 9) hE9 ?_; refine tc_env (d := 0) hE0 ?_; refine tc_env (d := 5) hE5 ?_
            clear hE9 hE0 hE5
            refine tc_seq ?_; refine sr ?_; refine tlm ?_; refine tlm ?_; refine tv (o_len Tryz.underlying88 rfl) ?_; refine tv (o_lss rfl rfl) ?_; refine nq ?_; refine tc_cond rfl (fun h => ?_) (fun h => ?_)
            · have hi : i < ls.length := by simp at h; omega
              have hin : i < (ls.map List.length).length := by simpa using hi
              have hv1 : vs.length = (ls.map List.length).length := by simpa using hvl
              have hg1 : gs.length = (ls.map List.length).length := by simp; omega
              refine tc_have (fun _ _ h => GP_read (X := F * Sl 1 (.slice a m c) m vs) hv1 hg1 hin h.left) fun ⟨ai, ci, ag, cg, hvi, hgi, hr1, hr2⟩ => ?_
              simp only [List.getElem_map] at hvi hgi hr1 hr2
              have hlsi := hls _ (List.getElem_mem hi)
              have hbl1 : (bys (mks i ls[i].length)).length = ls[i].length := by rw [bys_length, mks_length]
              have hbl2 : (bys (mks i (ls[i].length + 70))).length = ls[i].length + 70 := by rw [bys_length, mks_length]
              refine tc_skip ?_; refine q_then_n ?_; refine tc_seq ?_; refine tc_block ?_; refine sr ?_; refine tla ?_; refine nq ?_; refine tc_block ?_; refine tc_loop (fun kk ρ BB => ∃ (k : Nat), (k ≤ ls[i].length + 70) ∧ kk = ls[i].length + 70 - k ∧ ρ 10 = .int .i64 (k : Nat) ∧ ρ 0 = .slice a m c ∧ ρ 5 = .slice a5 ls.length c5 ∧ ρ 9 = .int .i64 (i : Nat) ∧ BB = F * Sl 1 (.slice a m c) m vs * GP 0 vs gs (ls.map List.length) * Sl 1 (.slice a5 ls.length c5) ls.length gs) (m := ls[i].length + 70 - (0)) ?_ ?_
              · exact ⟨0, by omega, rfl, rfl, rfl, rfl, rfl, rfl⟩
              · intro k ρ B hI
                obtain ⟨k, hp0, hkk6, hE10, hE0, hE5, hE9, rfl⟩ := hI
                refine tc_env (d := 10) hE10 ?_; refine tc_env (d := 0) hE0 ?_; refine tc_env (d := 5) hE5 ?_; refine tc_env (d := 9) hE9 ?_
                clear hE10 hE0 hE5 hE9
                refine tc_seq ?_; refine sr ?_; refine tlm ?_; refine tlm ?_; refine tlm ?_; refine tv (o_ixP1 Tryz.underlying88 sz32 rfl rfl (by first | omega | (simp only [bys_length, ints_length, wds_length, bos_length, List.length_append, List.length_take, List.length_drop, List.length_singleton]; omega)) (by repeat (first | exact nn_some | with_reducible exact nn_sl (by decide) | exact nn_rs (by assumption) (fun _ => by first | omega | (simp only [bys_length, ints_length, wds_length, bos_length, List.length_append, List.length_take, List.length_drop, List.length_singleton]; omega)) | apply Nn.left))) ?_; refine tv (o_ldP p32 rfl (by repeat (first | assumption | with_reducible exact rs_sl | with_reducible exact rs_pt0 | exact rs_none | apply Rs.left)) (by first | assumption | exact bys_at (by omega) | exact ints_at (by omega) | exact wds_at (by omega) | exact bos_at (by omega) | rfl)) ?_; refine tv (o_len Tryz.underlying32 rfl) ?_; refine tv (o_lss rfl rfl) ?_; refine nq ?_; refine tc_cond rfl (fun h => ?_) (fun h => ?_)
                · have hk : k < ls[i].length + 70 := by simp at h; omega
                  have hk1 := mks_at (i := i) hk
                  refine tc_skip ?_; refine q_then_n ?_; refine tc_seq ?_; refine tc_block ?_; refine tc_seq ?_; refine tc_regq mo (by kernel_rfl) ?_; refine ql_v rfl (o_move (by conv => lhs; whnf)) ?_; refine ql_v rfl (o_move (by conv => lhs; whnf)) ?_; refine ql_v rfl (o_ixP1 Tryz.underlying88 sz32 rfl rfl (by first | omega | (simp only [bys_length, ints_length, wds_length, bos_length, List.length_append, List.length_take, List.length_drop, List.length_singleton]; omega)) (by repeat (first | exact nn_some | with_reducible exact nn_sl (by decide) | exact nn_rs (by assumption) (fun _ => by first | omega | (simp only [bys_length, ints_length, wds_length, bos_length, List.length_append, List.length_take, List.length_drop, List.length_singleton]; omega)) | apply Nn.left))) ?_; refine ql_v rfl (o_ldP p32 rfl (by repeat (first | assumption | with_reducible exact rs_sl | with_reducible exact rs_pt0 | exact rs_none | apply Rs.left)) (by first | assumption | exact bys_at (by omega) | exact ints_at (by omega) | exact wds_at (by omega) | exact bos_at (by omega) | rfl)) ?_; refine ql_v rfl (o_move (by conv => lhs; whnf)) ?_; refine ql_v rfl (o_ixP1 Tryz.underlying32 sz5 rfl rfl (by first | omega | (simp only [bys_length, ints_length, wds_length, bos_length, List.length_append, List.length_take, List.length_drop, List.length_singleton]; omega)) (by repeat (first | exact nn_some | with_reducible exact nn_sl (by decide) | exact nn_rs (by assumption) (fun _ => by first | omega | (simp only [bys_length, ints_length, wds_length, bos_length, List.length_append, List.length_take, List.length_drop, List.length_singleton]; omega)) | apply Nn.left))) ?_
                  refine ql_v rfl (o_ldP p5 rfl (by repeat (first | assumption | with_reducible exact rs_sl | with_reducible exact rs_pt0 | exact rs_none | apply Rs.left)) (by first | assumption | exact bys_at (by omega) | exact ints_at (by omega) | exact wds_at (by omega) | exact bos_at (by omega) | rfl)) ?_; refine ql_v rfl (o_move (by conv => lhs; whnf)) ?_; refine ql_v rfl (o_move (by conv => lhs; whnf)) ?_; refine ql_c rfl (fun w => exec_call bd121 rfl) (mark_c) ?_; refine ql_v rfl (o_nei rfl rfl) ?_; refine ql_v rfl (o_move (by conv => lhs; whnf)) ?_; refine ql_bool (d := 91) rfl (fun h => ?_) (fun h => ?_)
                  · exfalso; simp at h
                  · try simp only [lv1, lv2, lv3, lv4, lv5, lv6, Bool.not_true, Bool.not_false] at h
                    refine ql_v rfl (o_move (by conv => lhs; whnf)) ?_; refine ql_v rfl (o_move (by conv => lhs; whnf)) ?_; refine ql_v rfl (o_move (by conv => lhs; whnf)) ?_; refine ql_v rfl (o_ixP1 Tryz.underlying88 sz32 rfl rfl (by first | omega | (simp only [bys_length, ints_length, wds_length, bos_length, List.length_append, List.length_take, List.length_drop, List.length_singleton]; omega)) (by repeat (first | exact nn_some | with_reducible exact nn_sl (by decide) | exact nn_rs (by assumption) (fun _ => by first | omega | (simp only [bys_length, ints_length, wds_length, bos_length, List.length_append, List.length_take, List.length_drop, List.length_singleton]; omega)) | apply Nn.left))) ?_; refine ql_v rfl (o_ldP p32 rfl (by repeat (first | assumption | with_reducible exact rs_sl | with_reducible exact rs_pt0 | exact rs_none | apply Rs.left)) (by first | assumption | exact bys_at (by omega) | exact ints_at (by omega) | exact wds_at (by omega) | exact bos_at (by omega) | rfl)) ?_; refine ql_v rfl (o_len Tryz.underlying32 rfl) ?_; refine ql_v rfl (o_lss rfl rfl) ?_; refine ql_v rfl (o_move (by conv => lhs; whnf)) ?_; refine ql_bool (d := 99) rfl (fun h => ?_) (fun h => ?_)
                    · have hk2 : k < ls[i].length := by simp at h; omega
                      have hk3 := mks_at (i := i) hk2
                      refine ql_v rfl (o_move (by conv => lhs; whnf)) ?_; refine ql_v rfl (o_move (by conv => lhs; whnf)) ?_; refine ql_v rfl (o_ixP1 Tryz.underlying88 sz32 rfl rfl (by first | omega | (simp only [bys_length, ints_length, wds_length, bos_length, List.length_append, List.length_take, List.length_drop, List.length_singleton]; omega)) (by repeat (first | exact nn_some | with_reducible exact nn_sl (by decide) | exact nn_rs (by assumption) (fun _ => by first | omega | (simp only [bys_length, ints_length, wds_length, bos_length, List.length_append, List.length_take, List.length_drop, List.length_singleton]; omega)) | apply Nn.left))) ?_; refine ql_v rfl (o_ldP p32 rfl (by repeat (first | assumption | with_reducible exact rs_sl | with_reducible exact rs_pt0 | exact rs_none | apply Rs.left)) (by first | assumption | exact bys_at (by omega) | exact ints_at (by omega) | exact wds_at (by omega) | exact bos_at (by omega) | rfl)) ?_; refine ql_v rfl (o_move (by conv => lhs; whnf)) ?_; refine ql_v rfl (o_ixP1 Tryz.underlying32 sz5 rfl rfl (by first | omega | (simp only [bys_length, ints_length, wds_length, bos_length, List.length_append, List.length_take, List.length_drop, List.length_singleton]; omega)) (by repeat (first | exact nn_some | with_reducible exact nn_sl (by decide) | exact nn_rs (by assumption) (fun _ => by first | omega | (simp only [bys_length, ints_length, wds_length, bos_length, List.length_append, List.length_take, List.length_drop, List.length_singleton]; omega)) | apply Nn.left))) ?_
                      refine ql_v rfl (o_ldP p5 rfl (by repeat (first | assumption | with_reducible exact rs_sl | with_reducible exact rs_pt0 | exact rs_none | apply Rs.left)) (by first | assumption | exact bys_at (by omega) | exact ints_at (by omega) | exact wds_at (by omega) | exact bos_at (by omega) | rfl)) ?_; refine ql_v rfl (o_move (by conv => lhs; whnf)) ?_; refine ql_v rfl (o_move (by conv => lhs; whnf)) ?_; refine ql_c rfl (fun w => exec_call bd121 rfl) (mark_c) ?_; refine ql_v rfl (o_nei rfl rfl) ?_; refine ql_v rfl (o_pick_t rfl (by conv => lhs; whnf)) ?_; refine ql_v rfl (o_pick_f rfl (by conv => lhs; whnf)) ?_; refine ql_nil ?_; refine q_then_n ?_; refine tc_cond rfl (fun h => ?_) (fun h => ?_)
                      · exfalso; simp at h
                      · try simp only [lv1, lv2, lv3, lv4, lv5, lv6, Bool.not_true, Bool.not_false] at h
                        refine tc_skip ?_; refine q_block_n (q_then_n ?_); refine tc_reg ?_; refine tlm ?_; refine tv (by first | exact o_addI rfl rfl (by omega) | exact o_add rfl rfl) ?_; refine tla ?_; refine nq ?_; exact ⟨_, by omega, k + 1, by omega, rfl, rfl, rfl, rfl, rfl, rfl⟩
                    · try simp only [lv1, lv2, lv3, lv4, lv5, lv6, Bool.not_true, Bool.not_false] at h
                      refine ql_skip rfl ?_; refine ql_skip rfl ?_; refine ql_skip rfl ?_; refine ql_skip rfl ?_; refine ql_skip rfl ?_; refine ql_skip rfl ?_; refine ql_skip rfl ?_; refine ql_skip rfl ?_; refine ql_skip rfl ?_; refine ql_skip rfl ?_; refine ql_skip rfl ?_; refine ql_v rfl (o_pick_f rfl (by conv => lhs; whnf)) ?_; refine ql_v rfl (o_pick_f rfl (by conv => lhs; whnf)) ?_; refine ql_nil ?_; refine q_then_n ?_; refine tc_cond_f rfl ?_; refine tc_skip ?_; refine q_block_n (q_then_n ?_); refine tc_reg ?_; refine tlm ?_; refine tv (by first | exact o_addI rfl rfl (by omega) | exact o_add rfl rfl) ?_; refine tla ?_; refine nq ?_; exact ⟨_, by omega, k + 1, by omega, rfl, rfl, rfl, rfl, rfl, rfl⟩
                · try simp only [lv1, lv2, lv3, lv4, lv5, lv6, Bool.not_true, Bool.not_false] at h
                  refine tc_exit ?_; refine q_then_e (q_then_e (q_block_x (q_block_n (q_then_n ?_)))); refine tc_reg ?_; refine tlm ?_; refine tv (by first | exact o_addI rfl rfl (by omega) | exact o_add rfl rfl) ?_; refine tla ?_; refine nq ?_; exact ⟨_, by omega, i + 1, by omega, rfl, rfl, rfl, rfl, rfl⟩
            · try simp only [lv1, lv2, lv3, lv4, lv5, lv6, Bool.not_true, Bool.not_false] at h
              refine tc_exit ?_; refine q_then_e (q_then_e (q_block_x (q_then_n ?_))); refine sr ?_; refine tla ?_; refine nq ?_; refine tc_ret ?_; exact ⟨.bool true, F, res1 rfl rfl, Dr.sat (by repeat (first | with_reducible exact dr_refl | apply dr_keep | apply dr_drop)), rfl, rfl⟩
end Go.Vl

set_option linter.unusedVariables false
set_option linter.unusedSimpArgs false
namespace Go.Vl
open Go Go.Proofs
theorem planT_five (n : Int) : ∃ r0 r1 r2 r3 r4 e : Int, planT n = ([r0, r1, r2, r3, r4], e) ∧ 0 ≤ r4 ∧ r4 ≤ 16384 := by
  by_cases h : 36992 ≤ n ∧ n ≤ 4194304 ∧ n % 64 = 0
  · exact ⟨_, _, _, _, _, _, planT_t h, by omega, by omega⟩
  · exact ⟨_, _, _, _, _, _, planT_f h, by omega, by omega⟩
theorem Plan_q {A : SP} {n e r0 r1 r2 r3 r4 : Int} (hp : planT n = ([r0, r1, r2, r3, r4], e)) : Fn Tryz.prog 61 #[.int .i64 n] A (fun r B => r = .tuple #[.agg (ints [r0, r1, r2, r3, r4]).toArray, .int .i64 e] ∧ A = B) := by
  have := Plan_c (A := A) (n := n); rw [hp] at this; exact this
theorem PlanR_q {A : SP} {n e r0 r1 r2 r3 r4 : Int} (hp : planT n = ([r0, r1, r2, r3, r4], e)) : Fn Tryz.prog 62 #[.int .i64 n] A (fun r B => r = .tuple #[.agg (ints [r0, r1, r2, r3, r4]).toArray, .int .i64 e] ∧ A = B) := by
  have := PlanR_c (A := A) (n := n); rw [hp] at this; exact this
theorem lineT_xs (q0 q1 q2 q3 q4 : Int) : ∃ xs e, lineT q0 q1 q2 q3 q4 = (xs, e) ∧ xs.length ≤ 64 := by
  by_cases h : planT q0 = ([q0, q1, q2, q3, q4], 0)
  · exact ⟨_, _, lineT_t h, Nat.le_of_eq (sbB_len rfl)⟩
  · exact ⟨_, _, lineT_f h, by decide⟩
theorem Line_q {A : SP} {q0 q1 q2 q3 q4 e : Int} {xs : List Nat} (h : lineT q0 q1 q2 q3 q4 = (xs, e)) : Fn Tryz.prog 63 #[.agg (ints [q0, q1, q2, q3, q4]).toArray] A (fun r B => ∃ a c, r = .tuple #[.slice a xs.length c, .int .i64 e] ∧ xs.length ≤ c ∧ B = A * Sl 1 (.slice a xs.length c) xs.length (bys xs)) := by
  have := Line_u (A := A) (q0 := q0) (q1 := q1) (q2 := q2) (q3 := q3) (q4 := q4); rw [h] at this; exact this
theorem LineR_q {A : SP} {q0 q1 q2 q3 q4 e : Int} {xs : List Nat} (h : lineT q0 q1 q2 q3 q4 = (xs, e)) : Fn Tryz.prog 64 #[.agg (ints [q0, q1, q2, q3, q4]).toArray] A (fun r B => ∃ a c, r = .tuple #[.slice a xs.length c, .int .i64 e] ∧ xs.length ≤ c ∧ B = A * Sl 1 (.slice a xs.length c) xs.length (bys xs)) := by
  have := LineR_u (A := A) (q0 := q0) (q1 := q1) (q2 := q2) (q3 := q3) (q4 := q4); rw [h] at this; exact this
attribute [local irreducible] crk crL crc Sl pt ro mbs sbB planT lineT
set_option maxRecDepth 20000 in
set_option maxHeartbeats 1000000 in
theorem SuperPlansW_f (A : SP) (n s0 s1 s2 s3 s4 : Int) :
    Fn Tryz.prog 11 #[.int .i64 n, .agg (ints [s0, s1, s2, s3, s4]).toArray] (A) (fun r B => r = .bool true ∧ A = B) := by
  refine fn_enterW (args := [.int .i64 n, .agg (ints [s0, s1, s2, s3, s4]).toArray]) Tryz.func11 rfl Tryz.ntmps11 (by simp) ?_
  obtain ⟨r0, r1, r2, r3, r4, pe, hp, hp4, hp5⟩ := planT_five n
  refine sr ?_; refine tl_x rfl (o_box rfl rfl) ?_; rintro _ _ ⟨b3, rfl, rfl⟩; refine tla ?_; refine nq ?_; refine sr ?_; refine tlm ?_; refine tl_c rfl (o_call bd61 rfl (Plan_q hp)) ?_; rintro _ _ ⟨rfl, rfl⟩; refine tlm ?_; refine tv (o_extract rfl rfl) ?_; refine tv (o_extract rfl rfl) ?_; refine tl_x rfl (o_alloc z42 rfl) ?_; rintro _ _ ⟨b5, rfl, rfl⟩; refine tl_u rfl (o_stUN (l' := ints [r0, r1, r2, r3, r4]) rfl (by repeat (first | with_reducible exact upd_here | with_reducible exact upd_pt | apply upd_left)) sz42 rfl rfl rfl (by simp) rfl) ?_; refine tla ?_; refine nq ?_; refine sr ?_; refine tlm ?_; refine tl_c rfl (o_call bd62 rfl (PlanR_q hp)) ?_; rintro _ _ ⟨rfl, rfl⟩; refine tlm ?_; refine tv (o_extract rfl rfl) ?_; refine tv (o_extract rfl rfl) ?_; refine tl_x rfl (o_alloc z42 rfl) ?_; rintro _ _ ⟨b7, rfl, rfl⟩; refine tl_u rfl (o_stUN (l' := ints [r0, r1, r2, r3, r4]) rfl (by repeat (first | with_reducible exact upd_here | with_reducible exact upd_pt | apply upd_left)) sz42 rfl rfl rfl (by simp) rfl) ?_; refine tla ?_; refine nq ?_; refine tc_seq ?_; refine sr ?_; refine tv (o_loadN (vs := ints [r0, r1, r2, r3, r4]) a42 sz42 rfl (by repeat (first | with_reducible exact has_here | with_reducible exact has_pt | apply has_left)) (by show 5 ≤ 5; decide) rfl) ?_; refine tv (o_loadN (vs := ints [r0, r1, r2, r3, r4]) a42 sz42 rfl (by repeat (first | with_reducible exact has_here | with_reducible exact has_pt | apply has_left)) (by show 5 ≤ 5; decide) rfl) ?_
  refine tv (o_nest (k := 5) (l := [r0, r1, r2, r3, r4]) (m := [r0, r1, r2, r3, r4]) Tryz.underlying42 (by kernel_rfl) (by kernel_rfl) (by kernel_rfl) rfl rfl rfl rfl) ?_; refine tlm ?_; refine tl_bool (d := 30) rfl (fun h => ?_) (fun h => ?_)
  · (exfalso; first | (revert h; simp; done) | (simp at h; done) | (revert h; simp; omega) | (simp at h; omega) | omega)
  · try simp only [lv1, lv2, lv3, lv4, lv5, lv6, Bool.not_true, Bool.not_false] at h
    refine tlm ?_; refine tlm ?_; refine tv (o_nei rfl rfl) ?_; refine tv (o_pick_f rfl (by conv => lhs; whnf)) ?_; refine nq ?_; refine tc_cond rfl (fun h => ?_) (fun h => ?_)
    · exfalso; simp at h
    · try simp only [lv1, lv2, lv3, lv4, lv5, lv6, Bool.not_true, Bool.not_false] at h
      refine tc_skip ?_; refine q_then_n ?_; refine sr ?_; refine tv (o_loadN (vs := ints [s0, s1, s2, s3, s4]) a42 sz42 rfl (by repeat (first | with_reducible exact has_here | with_reducible exact has_pt | apply has_left)) (by show 5 ≤ 5; decide) rfl) ?_; refine tv (o_loadN (vs := ints [r0, r1, r2, r3, r4]) a42 sz42 rfl (by repeat (first | with_reducible exact has_here | with_reducible exact has_pt | apply has_left)) (by show 5 ≤ 5; decide) rfl) ?_; refine tv (o_fieldAddr (o := 0) Tryz.underlying42 rfl rfl sz3 rfl) ?_; refine tv (by first | exact o_load p3 rfl (by repeat (first | with_reducible exact has_here | with_reducible exact has_pt | apply has_left)) rfl | exact o_loadC p3 rfl (by assumption)) ?_; refine tv (o_fieldAddr (o := 1) Tryz.underlying42 rfl rfl sz3 rfl) ?_; refine tv (by first | exact o_load p3 rfl (by repeat (first | with_reducible exact has_here | with_reducible exact has_pt | apply has_left)) rfl | exact o_loadC p3 rfl (by assumption)) ?_; refine tv (o_fieldAddr (o := 2) Tryz.underlying42 rfl rfl sz3 rfl) ?_; refine tv (by first | exact o_load p3 rfl (by repeat (first | with_reducible exact has_here | with_reducible exact has_pt | apply has_left)) rfl | exact o_loadC p3 rfl (by assumption)) ?_; refine tv (o_fieldAddr (o := 3) Tryz.underlying42 rfl rfl sz3 rfl) ?_; refine tv (by first | exact o_load p3 rfl (by repeat (first | with_reducible exact has_here | with_reducible exact has_pt | apply has_left)) rfl | exact o_loadC p3 rfl (by assumption)) ?_
      refine tv (o_fieldAddr (o := 4) Tryz.underlying42 rfl rfl sz3 rfl) ?_; refine tv (by first | exact o_load p3 rfl (by repeat (first | with_reducible exact has_here | with_reducible exact has_pt | apply has_left)) rfl | exact o_loadC p3 rfl (by assumption)) ?_; refine tv (o_addI rfl rfl (by omega)) ?_; refine tv (o_bS (l := ints [r0, r1, r2, r3, r4 + 1]) (pv_cons (by conv => lhs; whnf) (pv_cons (by conv => lhs; whnf) (pv_cons (by conv => lhs; whnf) (pv_cons (by conv => lhs; whnf) (pv_cons (by conv => lhs; whnf) pv_nil))))) Tryz.underlying42 z42 (pl42 Tryz.underlying42) rfl) ?_; refine tl_x rfl (o_buildSliceL (k := 5) (vs := [.agg (ints [s0, s1, s2, s3, s4]).toArray, .agg (ints [r0, r1, r2, r3, r4]).toArray, .agg (ints [r0, r1, r2, r3, r4 + 1]).toArray]) (l := ints [s0, s1, s2, s3, s4, r0, r1, r2, r3, r4, r0, r1, r2, r3, r4 + 1]) Tryz.underlying97 sz42 z42 rfl rfl (by decide) (by decide) (by intro v hv; simp at hv; rcases hv with rfl | rfl | rfl <;> rfl) rfl) ?_; rintro _ _ ⟨b49, rfl, rfl⟩; refine tla ?_; refine nq ?_; refine tc_seq ?_; refine sr ?_; refine tla ?_; refine nq ?_; refine tc_block ?_; refine tc_loop (fun kk ρ BB => ∃ (i : Nat), (i ≤ 3) ∧ kk = 3 - i ∧ ρ 10 = .int .i64 (i : Nat) ∧ ρ 9 = .slice (some ⟨b49, 0, none⟩) 3 3 ∧ BB = A * pt b3 (cl (ints [s0, s1, s2, s3, s4]) 42) * pt b5 (cl (ints [r0, r1, r2, r3, r4]) 42) * pt b7 (cl (ints [r0, r1, r2, r3, r4]) 42) * pt b49 (cl (ints [s0, s1, s2, s3, s4, r0, r1, r2, r3, r4, r0, r1, r2, r3, r4 + 1]) 42)) (m := 3 - (0)) ?_ ?_
      · exact ⟨0, by omega, rfl, rfl, rfl, rfl⟩
      · intro k ρ B hI
        obtain ⟨i, hp0, hkk1, hE10, hE9, rfl⟩ := hI
        refine tc_env (d := 10) hE10 ?_; refine tc_env (d := 9) hE9 ?_
        clear hE10 hE9
        refine tc_seq ?_; refine sr ?_; refine tlm ?_; refine tlm ?_; refine tv (o_len Tryz.underlying97 rfl) ?_; refine tv (o_lss rfl rfl) ?_; refine nq ?_; refine tc_cond rfl (fun h => ?_) (fun h => ?_)
        · have hi : i < 3 := by simp at h; omega
          obtain ⟨q0, q1, q2, q3, q4, hq⟩ : ∃ q0 q1 q2 q3 q4 : Int, ((ints [s0, s1, s2, s3, s4, r0, r1, r2, r3, r4, r0, r1, r2, r3, r4 + 1]).drop (i * 5)).take 5 = ints [q0, q1, q2, q3, q4] := by
            match i, hi with
            | 0, _ => exact ⟨_, _, _, _, _, rfl⟩
            | 1, _ => exact ⟨_, _, _, _, _, rfl⟩
            | 2, _ => exact ⟨_, _, _, _, _, rfl⟩
          obtain ⟨xs, e, hT, hx64⟩ := lineT_xs q0 q1 q2 q3 q4
          have hlen : xs.length ≤ 4611686018427387904 := by omega
          refine tc_skip ?_; refine q_then_n ?_; refine tc_seq ?_; refine tc_block ?_; refine sr ?_; refine tlm ?_; refine tlm ?_; refine tv (o_ixP Tryz.underlying97 sz42 rfl rfl (by first | omega | (simp only [bys_length, ints_length, wds_length, bos_length, List.length_append, List.length_take, List.length_drop, List.length_singleton]; omega)) (by repeat (first | exact nn_some | with_reducible exact nn_sl (by decide) | exact nn_rs (by assumption) (fun _ => by first | omega | (simp only [bys_length, ints_length, wds_length, bos_length, List.length_append, List.length_take, List.length_drop, List.length_singleton]; omega)) | apply Nn.left))) ?_; refine tv (o_ldPN (a := some ⟨b49, 0, none⟩) (vs := ints [q0, q1, q2, q3, q4]) a42 sz42 rfl (by repeat (first | with_reducible exact rs_pt0 | apply Rs.left)) hq rfl (by decide)) ?_; refine tl_c rfl (o_call bd63 rfl (Line_q hT)) ?_; rintro _ _ ⟨a61, c61, rfl, hc61, rfl⟩; refine tlm ?_; refine tv (o_extract rfl rfl) ?_; refine tv (o_extract rfl rfl) ?_; refine tla ?_; refine tla ?_; refine nq ?_; refine sr ?_; refine tlm ?_; refine tlm ?_; refine tv (o_ixP Tryz.underlying97 sz42 rfl rfl (by first | omega | (simp only [bys_length, ints_length, wds_length, bos_length, List.length_append, List.length_take, List.length_drop, List.length_singleton]; omega)) (by repeat (first | exact nn_some | with_reducible exact nn_sl (by decide) | exact nn_rs (by assumption) (fun _ => by first | omega | (simp only [bys_length, ints_length, wds_length, bos_length, List.length_append, List.length_take, List.length_drop, List.length_singleton]; omega)) | apply Nn.left))) ?_
          refine tv (o_ldPN (a := some ⟨b49, 0, none⟩) (vs := ints [q0, q1, q2, q3, q4]) a42 sz42 rfl (by repeat (first | with_reducible exact rs_pt0 | apply Rs.left)) hq rfl (by decide)) ?_; refine tl_c rfl (o_call bd63 rfl (Line_q hT)) ?_; rintro _ _ ⟨a69, c69, rfl, hc69, rfl⟩; refine tlm ?_; refine tv (o_extract rfl rfl) ?_; refine tv (o_extract rfl rfl) ?_; refine tla ?_; refine tla ?_; refine nq ?_; refine sr ?_; refine tlm ?_; refine tlm ?_; refine tv (o_ixP Tryz.underlying97 sz42 rfl rfl (by first | omega | (simp only [bys_length, ints_length, wds_length, bos_length, List.length_append, List.length_take, List.length_drop, List.length_singleton]; omega)) (by repeat (first | exact nn_some | with_reducible exact nn_sl (by decide) | exact nn_rs (by assumption) (fun _ => by first | omega | (simp only [bys_length, ints_length, wds_length, bos_length, List.length_append, List.length_take, List.length_drop, List.length_singleton]; omega)) | apply Nn.left))) ?_; refine tv (o_ldPN (a := some ⟨b49, 0, none⟩) (vs := ints [q0, q1, q2, q3, q4]) a42 sz42 rfl (by repeat (first | with_reducible exact rs_pt0 | apply Rs.left)) hq rfl (by decide)) ?_; refine tl_c rfl (o_call bd64 rfl (LineR_q hT)) ?_; rintro _ _ ⟨a77, c77, rfl, hc77, rfl⟩; refine tlm ?_; refine tv (o_extract rfl rfl) ?_
          refine tv (o_extract rfl rfl) ?_; refine tla ?_; refine tla ?_; refine nq ?_; refine sr ?_; refine tlm ?_; refine tlm ?_; refine tv (o_nei rfl rfl) ?_; refine tlm ?_; refine tl_bool (d := 83) rfl (fun h => ?_) (fun h => ?_)
          · (exfalso; first | (revert h; simp; done) | (simp at h; done) | (revert h; simp; omega) | (simp at h; omega) | omega)
          · try simp only [lv1, lv2, lv3, lv4, lv5, lv6, Bool.not_true, Bool.not_false] at h
            refine tlm ?_; refine tlm ?_; refine tl_c rfl (o_call bd53 rfl (EqBytes_c (xs := xs) (ys := xs) (h1 := rs_sl.left.left) (h2 := rs_sl))) ?_; rintro _ _ ⟨rfl, rfl⟩; refine tv (o_not rfl) ?_; refine tv (o_pick_f rfl (by conv => lhs; whnf)) ?_; refine tlm ?_; refine tl_bool (d := 89) rfl (fun h => ?_) (fun h => ?_)
            · (exfalso; first | (revert h; simp; done) | (simp at h; done) | (revert h; simp; omega) | (simp at h; omega) | omega)
            · try simp only [lv1, lv2, lv3, lv4, lv5, lv6, Bool.not_true, Bool.not_false] at h
              refine tlm ?_; refine tlm ?_; refine tl_c rfl (o_call bd53 rfl (EqBytes_c (xs := xs) (ys := xs) (h1 := rs_sl.left) (h2 := rs_sl))) ?_; rintro _ _ ⟨rfl, rfl⟩; refine tv (o_not rfl) ?_; refine tv (o_pick_f rfl (by conv => lhs; whnf)) ?_; refine tlm ?_; refine tl_bool (d := 95) rfl (fun h => ?_) (fun h => ?_)
              · (exfalso; first | (revert h; simp; done) | (simp at h; done) | (revert h; simp; omega) | (simp at h; omega) | omega)
              · try simp only [lv1, lv2, lv3, lv4, lv5, lv6, Bool.not_true, Bool.not_false] at h
                refine tlm ?_; refine tlm ?_; refine tl_x rfl (o_buildSliceL (k := 1) (vs := [.slice a61 xs.length c61, .slice a69 xs.length c69]) (l := [.slice a61 xs.length c61, .slice a69 xs.length c69]) Tryz.underlying88 sz32 z32 rfl rfl (by decide) (by decide) (by intro v hv; simp at hv; rcases hv with rfl | rfl <;> rfl) rfl) ?_; rintro _ _ ⟨b98, rfl, rfl⟩; refine tl_pre (A' := A * pt b3 (cl (ints [s0, s1, s2, s3, s4]) 42) * pt b5 (cl (ints [r0, r1, r2, r3, r4]) 42) * pt b7 (cl (ints [r0, r1, r2, r3, r4]) 42) * pt b49 (cl (ints [s0, s1, s2, s3, s4, r0, r1, r2, r3, r4, r0, r1, r2, r3, r4 + 1]) 42) * Sl 1 (.slice a77 xs.length c77) xs.length (bys xs) * Parts [.slice a61 xs.length c61, .slice a69 xs.length c69] [xs, xs] * Sl 1 (.slice (some ⟨b98, 0, none⟩) 2 2) 2 [.slice a61 xs.length c61, .slice a69 xs.length c69]) (fun _ _ h => sl_new (k := 1) (n := 2) (cap := 2) (h.perm (by show _ = _ * (emp * _ * _) * _; rw [emp_star]; ac_rfl)) (by decide) (by show 2 * 1 ≤ 2; decide) rfl) ?_; refine tl_c rfl (o_call bd65 rfl (Apart_c [xs, xs] rfl (by decide) (by intro l hl; simp at hl; subst hl; omega))) ?_; rintro _ _ ⟨rfl, rfl⟩; refine tv (o_not rfl) ?_; refine tv (o_pick_f rfl (by conv => lhs; whnf)) ?_; refine nq ?_; refine tc_cond rfl (fun h => ?_) (fun h => ?_)
                · exfalso; simp at h
                · try simp only [lv1, lv2, lv3, lv4, lv5, lv6, Bool.not_true, Bool.not_false] at h
                  refine tc_skip ?_; refine q_block_n (q_then_n ?_); refine tc_pre (Dr.sat (A' := A * pt b3 (cl (ints [s0, s1, s2, s3, s4]) 42) * pt b5 (cl (ints [r0, r1, r2, r3, r4]) 42) * pt b7 (cl (ints [r0, r1, r2, r3, r4]) 42) * pt b49 (cl (ints [s0, s1, s2, s3, s4, r0, r1, r2, r3, r4, r0, r1, r2, r3, r4 + 1]) 42)) (by repeat (first | with_reducible exact dr_refl | apply dr_keep | apply dr_drop))) ?_; refine tc_reg ?_; refine tlm ?_; refine tv (by first | exact o_addI rfl rfl (by omega) | exact o_add rfl rfl) ?_; refine tla ?_; refine nq ?_; exact ⟨_, by omega, i + 1, by omega, rfl, rfl, rfl, rfl⟩
        · try simp only [lv1, lv2, lv3, lv4, lv5, lv6, Bool.not_true, Bool.not_false] at h
          refine tc_exit ?_; refine q_then_e (q_then_e (q_block_x (q_then_n ?_))); refine sr ?_; refine tl_c rfl (o_call bd19 rfl (works_c)) ?_; rintro _ _ ⟨rfl, rfl⟩; refine tla ?_; refine nq ?_; refine tc_ret ?_; exact ⟨.bool true, A, res1 rfl rfl, Dr.sat (by repeat (first | with_reducible exact dr_refl | apply dr_keep | apply dr_drop)), rfl, rfl⟩
end Go.Vl

set_option linter.unusedVariables false
set_option linter.unusedSimpArgs false
namespace Go.Vl
open Go Go.Proofs
attribute [local irreducible] crk crL crc Sl pt ro mbs sbB planT Dev imgS
theorem Read_off {A R : SP} {C : SP → SP} {d : Nat} {s : DevS} (hc : Ct A (Dev d s) R C := by repeat (first | with_reducible exact ct_here | apply ct_left)) (hoff : s.off = true) :
    Fn Tryz.prog 16 #[.pointer (some ⟨d, 0, none⟩)] (A) (fun r B => r = .tuple #[.agg (ints [0, 0, 0, 0, 0]).toArray, .int .i64 5] ∧ A = B) := by
  refine fn_enterW (args := [.pointer (some ⟨d, 0, none⟩)]) Tryz.func16 rfl Tryz.ntmps16 (by simp) ?_
  have hst : stE s = 5 := if_pos hoff
  obtain ⟨rfl, hC⟩ := hc
  refine sr ?_; refine tl_x rfl (o_alloc z42 rfl) ?_; rintro _ _ ⟨b2, rfl, rfl⟩; refine tla ?_; refine nq ?_; refine tc_seq ?_; refine sr ?_; refine tlm ?_; refine tl_c rfl (o_call bd72 rfl (state_c (s := s))) ?_; rintro _ _ ⟨rfl, rfl⟩; refine tl_env (d := 9) (v := .int .i64 5) (congrArg (Value.int .i64) hst) ?_; refine tla ?_; refine nq ?_; refine sr ?_; refine tlm ?_; refine tv (o_nei rfl rfl) ?_; refine nq ?_; refine tc_cond rfl (fun h => ?_) (fun h => ?_)
  · try simp only [lv1, lv2, lv3, lv4, lv5, lv6, Bool.not_true, Bool.not_false] at h
    refine sr ?_; refine tv (o_bS (l := ints [0, 0, 0, 0, 0]) pv_nil Tryz.underlying42 z42 (pl42 Tryz.underlying42) rfl) ?_; refine tlm ?_; refine tl_u rfl (o_stUN (l' := ints [0, 0, 0, 0, 0]) rfl (by repeat (first | with_reducible exact upd_here | with_reducible exact upd_pt | apply upd_left)) sz42 rfl rfl rfl (by simp) rfl) ?_; refine tla ?_; refine nq ?_; refine tc_ret ?_; refine q_then_r ?_; exact ⟨.tuple #[.agg (ints [0, 0, 0, 0, 0]).toArray, .int .i64 5], R * Dev d s, resA2 rfl (rv_cell a42 sz42 rfl (by repeat (first | with_reducible exact has_here | with_reducible exact has_pt | apply has_left)) (by show 5 ≤ 5; decide) rfl) (rv_tmp rfl), Dr.sat (by repeat (first | with_reducible exact dr_refl | apply dr_keep | apply dr_drop)), rfl, rfl⟩
  · exfalso; simp at h
theorem Read_no {A R : SP} {C : SP → SP} {d : Nat} {s : DevS} (hc : Ct A (Dev d s) R C := by repeat (first | with_reducible exact ct_here | apply ct_left)) {n : Nat} (hoff : s.off = false) (hlen : s.ls.length * 64 = n) (hn : ¬ (36992 ≤ (n : Int) ∧ (n : Int) ≤ 4194304 ∧ (n : Int) % 64 = 0)) :
    Fn Tryz.prog 16 #[.pointer (some ⟨d, 0, none⟩)] (A) (fun r B => r = .tuple #[.agg (ints [0, 0, 0, 0, 0]).toArray, .int .i64 100] ∧ A = B) := by
  refine fn_enterW (args := [.pointer (some ⟨d, 0, none⟩)]) Tryz.func16 rfl Tryz.ntmps16 (by simp) ?_
  have hst : stE s = 0 := by unfold stE; rw [hoff]; rfl
  refine tc_have (fun _ _ h => ct_wf2 hc h) fun hw => ?_
  have htop := hw.top
  obtain ⟨rfl, hC⟩ := hc
  refine sr ?_; refine tl_x rfl (o_alloc z42 rfl) ?_; rintro _ _ ⟨b2, rfl, rfl⟩; refine tla ?_; refine nq ?_; refine tc_seq ?_; refine sr ?_; refine tlm ?_; refine tl_c rfl (o_call bd72 rfl (state_c (s := s))) ?_; rintro _ _ ⟨rfl, rfl⟩; refine tl_env (d := 9) (v := .int .i64 0) (congrArg (Value.int .i64) hst) ?_; refine tla ?_; refine nq ?_; refine sr ?_; refine tlm ?_; refine tv (o_nei rfl rfl) ?_; refine nq ?_; refine tc_cond rfl (fun h => ?_) (fun h => ?_)
  · exfalso; simp at h
  · try simp only [lv1, lv2, lv3, lv4, lv5, lv6, Bool.not_true, Bool.not_false] at h
    refine tc_skip ?_; refine q_then_n ?_; refine sr ?_; refine tlm ?_; refine tl_c rfl (o_call bd51 rfl (Size_c (s := s))) ?_; rintro _ _ ⟨rfl, rfl⟩; refine tl_env (d := 16) (v := .int .i64 (n : Int)) (congrArg (Value.int .i64) (by omega)) ?_; refine tl_c rfl (o_call bd61 rfl (Plan_q (planT_f hn))) ?_; rintro _ _ ⟨rfl, rfl⟩; refine tlm ?_; refine tv (o_extract rfl rfl) ?_; refine tv (o_extract rfl rfl) ?_; refine tl_x rfl (o_alloc z42 rfl) ?_; rintro _ _ ⟨b5, rfl, rfl⟩; refine tl_u rfl (o_stUN (l' := ints [0, 0, 0, 0, 0]) rfl (by repeat (first | with_reducible exact upd_here | with_reducible exact upd_pt | apply upd_left)) sz42 rfl rfl rfl (by simp) rfl) ?_; refine tla ?_; refine nq ?_; refine tc_seq ?_; refine sr ?_; refine tlm ?_; refine tv (o_nei rfl rfl) ?_; refine nq ?_; refine tc_cond rfl (fun h => ?_) (fun h => ?_)
    · try simp only [lv1, lv2, lv3, lv4, lv5, lv6, Bool.not_true, Bool.not_false] at h
      refine sr ?_; refine tv (o_bS (l := ints [0, 0, 0, 0, 0]) pv_nil Tryz.underlying42 z42 (pl42 Tryz.underlying42) rfl) ?_; refine tl_u rfl (o_stUN (l' := ints [0, 0, 0, 0, 0]) rfl (by repeat (first | with_reducible exact upd_here | with_reducible exact upd_pt | apply upd_left)) sz42 rfl rfl rfl (by simp) rfl) ?_; refine tla ?_; refine nq ?_; refine tc_ret ?_; refine q_then_r ?_; exact ⟨.tuple #[.agg (ints [0, 0, 0, 0, 0]).toArray, .int .i64 100], R * Dev d s, resA2 rfl (rv_cell a42 sz42 rfl (by repeat (first | with_reducible exact has_here | with_reducible exact has_pt | apply has_left)) (by show 5 ≤ 5; decide) rfl) (rv_tmp rfl), Dr.sat (by repeat (first | with_reducible exact dr_refl | apply dr_keep | apply dr_drop)), rfl, rfl⟩
    · exfalso; simp at h
/-- What Read and Root answer. -/
def rdA (s : DevS) : List Int × Int := if s.off = true then ([0, 0, 0, 0, 0], 5) else if 578 ≤ s.ls.length then rdT (s.ls.length * 64) (imgS s) else ([0, 0, 0, 0, 0], 100)
def rootA (s : DevS) : Nat × Int := if (rdA s).2 ≠ 0 then (0, (rdA s).2) else wordP 64 s
theorem rdT_len (n : Nat) (I : List Nat) : (rdT n I).1.length = 5 := by unfold rdT; split <;> rfl
theorem rdA_len (s : DevS) : (rdA s).1.length = 5 := by
  unfold rdA; split
  · rfl
  · split
    · exact rdT_len _ _
    · rfl
theorem Read_c {A R : SP} {C : SP → SP} {d : Nat} {s : DevS} (hc : Ct A (Dev d s) R C) : Fn Tryz.prog 16 #[.pointer (some ⟨d, 0, none⟩)] A (fun r B => r = .tuple #[.agg (ints (rdA s).1).toArray, .int .i64 (rdA s).2] ∧ A = B) := by
  intro g w hs
  have hw := ct_wf2 hc hs
  have htop := hw.top
  unfold rdA
  by_cases h1 : s.off = true
  · rw [if_pos h1]; exact Read_off hc h1 g w hs
  · rw [if_neg h1]
    by_cases h2 : 578 ≤ s.ls.length
    · rw [if_pos h2]; exact Read_ok hc (by simpa using h1) rfl (by omega) (by rw [imgS_len hw]) g w hs
    · rw [if_neg h2]; exact Read_no hc (by simpa using h1) rfl (by omega) g w hs
theorem five_i {l : List Int} (h : l.length = 5) : ∃ a b c d e, l = [a, b, c, d, e] := by
  match l, h with
  | [a, b, c, d, e], _ => exact ⟨a, b, c, d, e, rfl⟩
theorem Read_5 {A R : SP} {C : SP → SP} {d : Nat} {s : DevS} {l : List Int} {e : Int} (hc : Ct A (Dev d s) R C) (hr : rdA s = (l, e)) : Fn Tryz.prog 16 #[.pointer (some ⟨d, 0, none⟩)] A (fun r B => r = .tuple #[.agg (ints l).toArray, .int .i64 e] ∧ A = B) := by
  have := Read_c hc; rw [hr] at this; exact this
theorem Root_c {A R : SP} {C : SP → SP} {d : Nat} {s : DevS} (hc : Ct A (Dev d s) R C := by repeat (first | with_reducible exact ct_here | apply ct_left)) :
    Fn Tryz.prog 17 #[.pointer (some ⟨d, 0, none⟩)] (A) (fun r B => r = .tuple #[.int .u64 (((rootA s).1 : Nat) : Int), .int .i64 (rootA s).2] ∧ A = B) := by
  refine fn_enterW (args := [.pointer (some ⟨d, 0, none⟩)]) Tryz.func17 rfl Tryz.ntmps17 (by simp) ?_
  obtain ⟨q0, q1, q2, q3, q4, hq⟩ := five_i (rdA_len s)
  obtain ⟨e0, he0⟩ : ∃ e0, e0 = (rdA s).2 := ⟨_, rfl⟩
  have hrd : rdA s = ([q0, q1, q2, q3, q4], e0) := by rw [← hq, he0]
  obtain ⟨rfl, hC⟩ := hc
  refine sr ?_; refine tla ?_; refine tla ?_; refine nq ?_; refine tc_seq ?_; refine sr ?_; refine tlm ?_; refine tl_c rfl (o_call bd16 rfl (Read_5 (s := s) (by repeat (first | with_reducible exact ct_here | apply ct_left)) hrd)) ?_; rintro _ _ ⟨rfl, rfl⟩; refine tlm ?_; refine tv (o_extract rfl rfl) ?_; refine tv (o_extract rfl rfl) ?_; refine tl_x rfl (o_alloc z42 rfl) ?_; rintro _ _ ⟨b4, rfl, rfl⟩; refine tl_u rfl (o_stUN (l' := ints [q0, q1, q2, q3, q4]) rfl (by repeat (first | with_reducible exact upd_here | with_reducible exact upd_pt | apply upd_left)) sz42 rfl rfl rfl (by simp) rfl) ?_; refine tla ?_; refine nq ?_; refine sr ?_; refine tlm ?_; refine tv (o_nei rfl rfl) ?_; refine nq ?_; refine tc_cond rfl (fun h => ?_) (fun h => ?_)
  · try simp only [lv1, lv2, lv3, lv4, lv5, lv6, Bool.not_true, Bool.not_false] at h
    refine sr ?_; refine tlm ?_; refine tla ?_; refine tla ?_; refine nq ?_; refine tc_ret ?_; refine q_then_r ?_
    first
    | (have hp : rootA s = (0, e0) := by unfold rootA; rw [← he0, if_pos (by simpa using h)]
       rw [hp]; exact ⟨.tuple #[.int .u64 0, .int .i64 e0], R * Dev d s, res2 rfl rfl rfl, Dr.sat (by repeat (first | with_reducible exact dr_refl | apply dr_keep | apply dr_drop)), rfl, rfl⟩)
    | (have hp : rootA s = wordP 64 s := by unfold rootA; rw [← he0, if_neg (by simpa using h)]
       rw [hp]; exact ⟨.tuple #[.int .u64 (((wordP 64 s).1 : Nat) : Int), .int .i64 (wordP 64 s).2], R * Dev d s, res2 rfl rfl rfl, Dr.sat (by repeat (first | with_reducible exact dr_refl | apply dr_keep | apply dr_drop)), rfl, rfl⟩)
  · try simp only [lv1, lv2, lv3, lv4, lv5, lv6, Bool.not_true, Bool.not_false] at h
    refine tc_skip ?_; refine q_then_n ?_; refine sr ?_; refine tlm ?_; refine tl_c rfl (o_call bd28 rfl (Word_c (s := s) (p := 64))) ?_; rintro _ _ ⟨rfl, rfl⟩; refine tv (o_extract rfl rfl) ?_; refine tv (o_extract rfl rfl) ?_; refine tla ?_; refine tla ?_; refine nq ?_; refine tc_ret ?_
    first
    | (have hp : rootA s = (0, e0) := by unfold rootA; rw [← he0, if_pos (by simpa using h)]
       rw [hp]; exact ⟨.tuple #[.int .u64 0, .int .i64 e0], R * Dev d s, res2 rfl rfl rfl, Dr.sat (by repeat (first | with_reducible exact dr_refl | apply dr_keep | apply dr_drop)), rfl, rfl⟩)
    | (have hp : rootA s = wordP 64 s := by unfold rootA; rw [← he0, if_neg (by simpa using h)]
       rw [hp]; exact ⟨.tuple #[.int .u64 (((wordP 64 s).1 : Nat) : Int), .int .i64 (wordP 64 s).2], R * Dev d s, res2 rfl rfl rfl, Dr.sat (by repeat (first | with_reducible exact dr_refl | apply dr_keep | apply dr_drop)), rfl, rfl⟩)
end Go.Vl

set_option linter.unusedVariables false
set_option linter.unusedSimpArgs false
namespace Go.Vl
open Go Go.Proofs
theorem lb_word {s : List Nat} {r : Nat} (h : r < s.length) (t : List Nat) : (((lb s ++ t).drop (8 * r)).take 8) = le 8 s[r] := by
  induction s generalizing r with
  | nil => simp at h
  | cons x s ih =>
    cases r with
    | zero =>
      show (((le 8 x ++ lb s) ++ t).drop 0).take 8 = le 8 x
      rw [List.drop_zero, List.append_assoc, List.take_append_of_le_length (by rw [le_length]; omega), List.take_of_length_le (by rw [le_length]; omega)]
    | succ r =>
      have e : 8 * (r + 1) = (le 8 x).length + 8 * r := by rw [le_length]; omega
      show (((le 8 x ++ lb s) ++ t).drop _).take 8 = _
      rw [e, List.append_assoc, ← List.drop_drop, List.drop_left]
      exact ih (by simpa using h)
theorem seenL_app (l : LineS) (σ : List Nat) : seenL { l with st := l.st ++ [σ] } = σ := by
  unfold seenL; simp [List.getD]
end Go.Vl

set_option linter.unusedVariables false
set_option linter.unusedSimpArgs false
namespace Go.Vl
open Go Go.Proofs
theorem spl_in {α : Type} {l b : List α} {q r k : Nat} (h1 : r + b.length ≤ k) (h2 : q + k ≤ l.length) : spl l q (spl ((l.drop q).take k) r b) = spl l (q + r) b := by
  have h3 : ((l.drop q).take k).length = k := by rw [List.length_take, List.length_drop]; omega
  apply List.ext_getElem?
  intro i
  rw [spl_at (by rw [spl_length (by omega)]; omega), spl_at (by omega), spl_length (by omega), h3]
  by_cases h : q ≤ i ∧ i < q + k
  · rw [if_pos h, spl_at (by omega)]
    by_cases h' : r ≤ i - q ∧ i - q < r + b.length
    · rw [if_pos h', if_pos (by omega)]; congr 1; omega
    · rw [if_neg h', if_neg (by omega), List.getElem?_take, if_pos (by omega), List.getElem?_drop]; congr 1; omega
  · rw [if_neg h, spl_at (by omega), if_neg (by omega)]
theorem spl_app {α : Type} (a l b : List α) {n p q : Nat} (ha : a.length = n) (hq : q = n + p) : spl (a ++ l) q b = a ++ spl l p b := by
  subst ha hq
  unfold spl
  rw [List.take_length_add_append, Nat.add_assoc, List.drop_length_add_append]
  simp only [List.append_assoc]
theorem spl_head {α : Type} (a l b : List α) (h : a.length = b.length) : spl (a ++ l) 0 b = b ++ l := by
  unfold spl
  rw [List.take_zero, List.nil_append, Nat.zero_add, ← h, List.drop_left]
theorem lb_set : ∀ {s : List Nat} {k v : Nat}, k < s.length → lb (s.set k v) = spl (lb s) (8 * k) (le 8 v)
  | x :: s, 0, v, _ => (spl_head (le 8 x) (lb s) (le 8 v) (by rw [le_length, le_length])).symm
  | x :: s, k + 1, v, h => by
    have ih := lb_set (s := s) (k := k) (v := v) (by simpa using h)
    show le 8 x ++ lb (s.set k v) = _
    rw [ih]
    exact (spl_app (le 8 x) (lb s) (le 8 v) (le_length 8 x) (by omega)).symm
theorem img_set : ∀ {ls : List LineS} {i : Nat} {l : LineS} (_ : ∀ l ∈ ls, WfL l) (_ : i < ls.length) (_ : (lb (seenL l)).length = 64), img (ls.set i l) = spl (img ls) (i * 64) (lb (seenL l))
  | l0 :: ls, 0, l, h, _, h8 => by
    have h0 := seen8 (h l0 (by simp))
    exact (by rw [Nat.zero_mul]; exact (spl_head (lb (seenL l0)) (img ls) (lb (seenL l)) (by rw [h0, h8])).symm)
  | l0 :: ls, i + 1, l, h, hi, h8 => by
    have h0 := seen8 (h l0 (by simp))
    have ih := img_set (i := i) (l := l) (fun x hx => h x (List.mem_cons_of_mem _ hx)) (by simpa using hi) h8
    show lb (seenL l0) ++ img (ls.set i l) = _
    rw [ih]
    exact (spl_app (lb (seenL l0)) (img ls) (lb (seenL l)) h0 (by omega)).symm
theorem img_lay {s : DevS} {q v : Nat} (hw : WfD s) (hq : q % 8 = 0) (hi : q / 64 < s.ls.length) (hv : v < 18446744073709551616) (hr : Room 1 s) : imgS (layS q v s) = spl (imgS s) q (le 8 v) := by
  have hwl := hw.line _ (List.getElem_mem hi)
  have h8 := hwl.eight _ (seenL_mem hwl)
  have hl := img_length hw.line
  have hs8 := seen8 hwl
  have e1 : (layS q v s).ls = s.ls.set (q / 64) (layL (q % 64 / 8) v s.ls[q / 64]) := by unfold layS; rw [onLine_at hi]
  have e2 : seenL (layL (q % 64 / 8) v s.ls[q / 64]) = (seenL s.ls[q / 64]).set (q % 64 / 8) v := by unfold layL; rw [seenL_app]
  have e3 : lb ((seenL s.ls[q / 64]).set (q % 64 / 8) v) = spl (lb (seenL s.ls[q / 64])) (q % 64) (le 8 v) := by
    rw [lb_set (by omega)]; congr 1; omega
  have e4 : ((imgS s).drop (q / 64 * 64)).take 64 = lb (seenL s.ls[q / 64]) := by unfold imgS; rw [img_at hw.line hi, List.take_append_of_le_length (by omega), List.take_of_length_le (by omega)]
  unfold imgS at e4 ⊢
  rw [e1, img_set hw.line hi (by rw [e2, e3, spl_length (by rw [le_length]; omega), hs8]), e2, e3, ← e4, spl_in (by rw [le_length]; omega) (by omega)]
  congr 1; omega
theorem word_at {s : DevS} {p : Nat} (hw : WfD s) (hi : p / 64 < s.ls.length) : le 8 ((seenL (s.ls.getD (p / 64) zline)).getD (p % 64 / 8) 0) = ((imgS s).drop (p - p % 8)).take 8 := by
  have hwl := hw.line _ (List.getElem_mem hi)
  have h8 := hwl.eight _ (seenL_mem hwl)
  have hs8 := seen8 hwl
  have hc := img_chunk (q := p - p % 8) (c := 8) hw.line (by rw [show (p - p % 8) / 64 = p / 64 by omega]; exact hi) (by omega)
  unfold imgS
  rw [← hc, seenL_getD hi]
  have e : (p - p % 8) / 64 = p / 64 := by omega
  simp only [e]
  have h2 := lb_word (s := seenL s.ls[p / 64]) (r := p % 64 / 8) (by omega) []
  rw [List.append_nil] at h2
  have e2 : (p - p % 8) % 64 = 8 * (p % 64 / 8) := by omega
  rw [e2, h2]
  congr 1
  simp [List.getD, show p % 64 / 8 < (seenL s.ls[p / 64]).length by omega]
theorem img_stW {s : DevS} {p : Nat} {b : List Nat} (hw : WfD s) (hi : p / 64 < s.ls.length) (hb : ∀ x ∈ b, x < 256) (hr : Room 1 s) : imgS (layS (p - p % 8) (nm (stW p b s)) s) = spl (imgS s) p (b.take (8 - p % 8)) := by
  have hl := img_length hw.line
  have e8 : le 8 (nm (stW p b s)) = stW p b s := by have := le_nm _ (stW_bytes (p := p) (s := s) hb); rw [stW_len] at this; exact this
  rw [img_lay hw (by omega) (by rw [show (p - p % 8) / 64 = p / 64 by omega]; exact hi) (stW_nm hb) hr, e8]
  unfold stW
  rw [word_at hw hi, spl_in (by rw [List.length_take]; omega) (by unfold imgS; omega)]
  congr 1; omega
/-- How many words bytes touch. -/
def cw (p m : Nat) : Nat := if m = 0 then 0 else (p + m - 1) / 8 - p / 8 + 1
theorem spl_nil {α : Type} (l : List α) (p : Nat) : spl l p [] = l := by simp [spl]
theorem spl_take {l b : List Nat} {p i : Nat} (hi : i < b.length) (hp : p + b.length ≤ l.length) : (spl l p (b.take i)).set (p + i) b[i] = spl l p (b.take (i + 1)) := by
  apply List.ext_getElem?
  intro j
  have h1 : (b.take i).length = i := by rw [List.length_take]; omega
  have h2 : (b.take (i + 1)).length = i + 1 := by rw [List.length_take]; omega
  rw [spl_at (by omega), List.getElem?_set, spl_length (by omega)]
  by_cases hj : p + i = j
  · subst hj
    rw [if_pos rfl, if_pos (by omega), if_pos (by omega), show p + i - p = i by omega, List.getElem?_take, if_pos (by omega), List.getElem?_eq_getElem hi]
  · rw [if_neg hj, spl_at (by omega), h1, h2]
    by_cases h : p ≤ j ∧ j < p + i
    · rw [if_pos h, if_pos (by omega), List.getElem?_take, List.getElem?_take, if_pos (by omega), if_pos (by omega)]
    · rw [if_neg h, if_neg (by omega)]
/-- The image that the statement begins with. -/
def im (n : Nat) : List Nat := (List.range n).map fun i => (i + 1) % 256
theorem lineF_lb {xs : List Nat} (hb : ∀ x ∈ xs, x < 256) {i : Nat} (hi : i * 64 + 64 ≤ xs.length) : lb (seenL (lineF xs i)) = (xs.drop (i * 64)).take 64 := by
  have e : seenL (lineF xs i) = (List.replicate 8 0).mapIdx fun k _ => wordF xs i k := by simp [seenL, lineF]
  rw [e]
  have key : ∀ k, k ≤ 8 → lb (((List.replicate 8 0).mapIdx fun k _ => wordF xs i k).take k) = (xs.drop (i * 64)).take (k * 8) := by
    intro k
    induction k with
    | zero => intro _; simp [lb]
    | succ k ih =>
      intro hk
      rw [lb_take (by simp; omega), ih (by omega)]
      simp only [List.getElem_mapIdx, wordF]
      have h1 := le_nm ((xs.drop (i * 64 + k * 8)).take 8) (fun x hx => hb x (List.mem_of_mem_drop (List.mem_of_mem_take hx)))
      rw [List.length_take, List.length_drop, Nat.min_eq_left (by omega)] at h1
      rw [h1, show (k + 1) * 8 = k * 8 + 8 by omega, List.take_add, List.drop_drop]
  have := key 8 (by omega)
  rwa [List.take_of_length_le (by simp)] at this
theorem img_from {n : Nat} {xs : List Nat} (hb : ∀ x ∈ xs, x < 256) (hl : xs.length = n * 64) : imgS (fromS n xs) = xs := by
  have e : imgS (fromS n xs) = ((List.range n).map fun i => (xs.drop (i * 64)).take 64).flatten := by
    unfold imgS img fromS
    rw [List.flatMap_def]
    congr 1
    apply List.ext_getElem
    · simp [newS]
    · intro j h1 h2
      simp only [List.length_map, List.length_mapIdx, List.length_range] at h1 h2
      simp only [List.getElem_map, List.getElem_mapIdx, List.getElem_range]
      exact lineF_lb hb (by omega)
  rw [e]
  have key : ∀ k, k ≤ n → ((List.range k).map fun i => (xs.drop (i * 64)).take 64).flatten = xs.take (k * 64) := by
    intro k
    induction k with
    | zero => intro _; simp
    | succ k ih =>
      intro hk
      rw [List.range_succ, List.map_append, List.flatten_append, ih (by omega)]
      simp only [List.map_cons, List.map_nil, List.flatten_cons, List.flatten_nil, List.append_nil]
      rw [show (k + 1) * 64 = k * 64 + 64 by omega, List.take_add]
  rw [key n (Nat.le_refl _), ← hl, List.take_length]
theorem room_from {n m : Nat} {xs : List Nat} (h : m ≤ 4194304) : Room m (fromS n xs) := fun l hl => by
  obtain ⟨j, hj, rfl⟩ := List.mem_iff_getElem.1 hl
  simp only [fromS, List.getElem_mapIdx, lineF, List.length_singleton]; omega
end Go.Vl

set_option linter.unusedVariables false
set_option linter.unusedSimpArgs false
namespace Go.Vl
open Go Go.Proofs
/-! ### What all contents of the lines of a range have in common -/
/-- All contents of all lines have the bytes c from at_ on. -/
def Ag (at_ : Nat) (c : List Nat) (s : DevS) : Prop := ∀ x, x < c.length → ∀ l, s.ls[(at_ + x) / 64]? = some l → ∀ σ ∈ l.st, (lb σ)[(at_ + x) % 64]? = c[x]?
def AgI (at_ : Nat) (c : List Nat) (I : List Nat) : Prop := ∀ x, x < c.length → I[at_ + x]? = c[x]?
theorem layS_ls {q v : Nat} {s : DevS} (hi : q / 64 < s.ls.length) : (layS q v s).ls = s.ls.set (q / 64) (layL (q % 64 / 8) v s.ls[q / 64]) := by unfold layS; rw [onLine_at hi]
/-! ### Lines are flushed -/
theorem img_seen {ls ls' : List LineS} (h : ls'.map seenL = ls.map seenL) : img ls' = img ls := by
  have e : ∀ l : List LineS, img l = (l.map seenL).flatMap lb := fun l => by unfold img; rw [List.flatMap_map]
  rw [e, e, h]
theorem seen_fence {l : LineS} (h : WfL l) : seenL (fenceL l) = seenL l := by
  unfold fenceL
  split
  · have h1 := h.hi
    have h2 := List.length_pos_iff.2 h.ne
    rw [seenL_eq h2, seenL_eq (by simp; omega)]
    simp only [List.getElem_drop, List.length_drop]
    congr 1; omega
  · rfl
theorem fence_mem {l : LineS} : ∀ σ ∈ (fenceL l).st, σ ∈ l.st := fun σ h => by
  unfold fenceL at h
  split at h
  · exact List.mem_of_mem_drop h
  · exact h
/-- Lines from q on, k of them, flushed. -/
def flsh (k q : Nat) (ls : List LineS) : List LineS := ls.mapIdx fun i l => if q ≤ i ∧ i < q + k then flushL l else l
theorem flsh_len (k q : Nat) (ls : List LineS) : (flsh k q ls).length = ls.length := by simp [flsh]
theorem flsh_zero (q : Nat) (ls : List LineS) : flsh 0 q ls = ls := by
  apply List.ext_getElem?
  intro j
  simp only [flsh, List.getElem?_mapIdx]
  cases ls[j]? with
  | none => rfl
  | some l => simp only [Option.map_some]; rw [if_neg (by omega)]
theorem flsh_step {k q : Nat} {ls : List LineS} (h : q < ls.length) : flsh k (q + 1) (ls.set q (flushL ls[q])) = flsh (k + 1) q ls := by
  apply List.ext_getElem?
  intro j
  simp only [flsh, List.getElem?_mapIdx]
  by_cases e : q = j
  · subst e
    rw [List.getElem?_set_self h, List.getElem?_eq_getElem h]
    simp only [Option.map_some]; rw [if_neg (by omega), if_pos (by omega)]
  · rw [List.getElem?_set_ne e]
    cases ls[j]? with
    | none => rfl
    | some l =>
      simp only [Option.map_some]
      by_cases h2 : q + 1 ≤ j ∧ j < q + 1 + k
      · rw [if_pos h2, if_pos (by omega)]
      · rw [if_neg h2, if_neg (by omega)]
theorem flsh_seen (k q : Nat) (ls : List LineS) : (flsh k q ls).map seenL = ls.map seenL := by
  apply List.ext_getElem?
  intro j
  simp only [flsh, List.getElem?_map, List.getElem?_mapIdx]
  cases ls[j]? with
  | none => rfl
  | some l => simp only [Option.map_some]; split <;> rfl
theorem flsh_get {k q j : Nat} {ls : List LineS} {l' : LineS} (h : (flsh k q ls)[j]? = some l') : ∃ l, ls[j]? = some l ∧ l' = if q ≤ j ∧ j < q + k then flushL l else l := by
  simp only [flsh, List.getElem?_mapIdx] at h
  cases e : ls[j]? with
  | none => rw [e] at h; cases h
  | some l => rw [e] at h; exact ⟨l, rfl, (Option.some.inj h).symm⟩
theorem flsh_wf {k q : Nat} {ls : List LineS} (h : ∀ l ∈ ls, WfL l) : ∀ l ∈ flsh k q ls, WfL l := fun l hl => by
  obtain ⟨j, hj, rfl⟩ := List.mem_iff_getElem.1 hl
  obtain ⟨l0, h1, h2⟩ := flsh_get (List.getElem?_eq_getElem hj)
  rw [h2]
  split
  · exact flushL_wf (h l0 (List.mem_of_getElem? h1))
  · exact h l0 (List.mem_of_getElem? h1)
theorem fence_get {ls : List LineS} {j : Nat} {l' : LineS} (h : (ls.map fenceL)[j]? = some l') : ∃ l, ls[j]? = some l ∧ l' = fenceL l := by
  rw [List.getElem?_map] at h
  cases e : ls[j]? with
  | none => rw [e] at h; cases h
  | some l => rw [e] at h; exact ⟨l, rfl, (Option.some.inj h).symm⟩
end Go.Vl
