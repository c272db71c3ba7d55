/- Texts as bytes, two lists joined. Conditions: none. -/
import Derived.Test.YtimckjnnjakcoaaS2
set_option linter.unusedVariables false
set_option linter.unusedSimpArgs false
namespace Go.Vl
open Go Go.Proofs


def sbys (s : ByteArray) : List Nat := s.data.toList.map fun b => b.toNat
theorem sbys_len (s : ByteArray) : (sbys s).length = s.size := by unfold sbys; rw [List.length_map]; rfl
theorem sbys_at {s : ByteArray} {i : Nat} (h : i < s.size) : ∃ c : UInt8, s[i]? = some c ∧ (sbys s)[i]? = some c.toNat := by
  refine ⟨s[i], getElem?_pos s i h, ?_⟩
  unfold sbys
  rw [List.getElem?_map, List.getElem?_eq_getElem (by simpa using h)]
  simp; rfl

attribute [local irreducible] crk crL crc Sl pt ro

theorem Text_c {A : SP} {s : ByteArray} (hl : s.size ≤ 1099511627776 := by decide) :
    Fn Try.prog 84 #[.string s] (A) (fun r B => ∃ a c, r = .slice a (sbys s).length c ∧ (sbys s).length ≤ c ∧ B = A * Sl 1 (.slice a (sbys s).length c) (sbys s).length (bys (sbys s))) := by
  refine fn_enterW (args := [.string s]) Try.func84 rfl Try.ntmps84 (by simp) ?_
  have hxl := sbys_len s
  refine tc_seq ?_
  refine tc_reg ?_
  refine tl_v rfl (o_assign (by conv => lhs; whnf)) ?_
  refine tl_nil ?_
  refine q_then_n ?_
  refine tc_seq ?_
  refine tc_reg ?_
  refine tl_v rfl (o_assign (by conv => lhs; whnf)) ?_
  refine tl_nil ?_
  refine q_then_n ?_
  refine tc_seq ?_
  refine tc_seq ?_
  refine tc_reg ?_
  refine tl_v rfl (o_assign (by conv => lhs; whnf)) ?_
  refine tl_nil ?_
  refine q_then_n ?_
  refine tc_block ?_
  refine tc_pre (fun _ _ h => sl_nil (k := 1) h) ?_
  refine tc_loop (fun kk ρ BB => ∃ (i : Nat) (a5 : Option Addr) (c5 : Nat), (i ≤ s.size) ∧ kk = s.size - i ∧ ρ 3 = .slice a5 i c5 ∧ ρ 4 = .int .i64 (i : Nat) ∧ ρ 0 = .string s ∧ BB = A * Sl 1 (.slice a5 i c5) i (bys ((sbys s).take i))) (m := s.size - (0)) ?_ ?_
  · exact ⟨0, none, 0, by omega, rfl, rfl, rfl, rfl, rfl⟩
  · intro k ρ B hI
    obtain ⟨i, a5, c5, hp0, hkk1, hE3, hE4, hE0, rfl⟩ := hI
    refine tc_env (d := 3) hE3 ?_
    refine tc_env (d := 4) hE4 ?_
    refine tc_env (d := 0) hE0 ?_
    clear hE3 hE4 hE0
    refine tc_seq ?_
    refine tc_seq ?_
    refine tc_reg ?_
    refine tl_v rfl (o_move (by conv => lhs; whnf)) ?_
    refine tl_v rfl (o_move (by conv => lhs; whnf)) ?_
    refine tl_v rfl (o_lenS Try.underlying9 rfl) ?_
    refine tl_v rfl (o_lss rfl rfl) ?_
    refine tl_nil ?_
    refine q_then_n ?_
    refine tc_cond rfl (fun h => ?_) (fun h => ?_)
    · have hi : i < s.size := by simp at h; omega
      obtain ⟨cc, h1, h2⟩ := sbys_at hi
      refine tc_skip ?_
      refine q_then_n ?_
      refine tc_seq ?_
      refine tc_block ?_
      refine tc_reg ?_
      refine tl_v rfl (o_move (by conv => lhs; whnf)) ?_
      refine tl_v rfl (o_move (by conv => lhs; whnf)) ?_
      refine tl_v rfl (o_move (by conv => lhs; whnf)) ?_
      refine tl_v rfl (o_indexS Try.underlying9 rfl rfl (by omega) h1) ?_
      refine tl_env (d := 14) (v := .int .u8 ((cc.toNat : Nat) : Int)) (rfl) ?_
      refine tl_x rfl (o_buildSlice1 Try.underlying28 sz5 z5 (by conv => lhs; whnf) rfl) ?_
      rintro _ _ ⟨b15, rfl, rfl⟩
      refine tl_x rfl (o_apB Try.underlying28 Try.underlying28 sz5 by5 z5 rfl (by decide) (by decide) rfl rfl rfl (by repeat (first | with_reducible exact ct_here | apply ct_left)) rfl (by first | exact bys_all _ | exact ints_all _ | exact wds_all _ | exact bos_all _ | rfl) (by first | omega | (simp only [bys_length, ints_length, wds_length, bos_length, List.length_append, List.length_take, List.length_drop, List.length_singleton]; omega)) (by first | exact bys_sn _ _ | exact ints_sn _ _ | exact wds_sn _ _ | exact bos_sn _ _ | exact (bys_append _ _).symm | rfl)) ?_
      rintro _ _ ⟨a16, c16, rfl, hc16, rfl⟩
      refine tl_v rfl (o_assign (by conv => lhs; whnf)) ?_
      refine tl_nil ?_
      refine q_block_n (q_then_n ?_)
      refine tc_reg ?_
      refine tl_v rfl (o_move (by conv => lhs; whnf)) ?_
      refine tl_v rfl (by first | exact o_addI rfl rfl (by omega) | exact o_add rfl rfl) ?_
      refine tl_v rfl (o_assign (by conv => lhs; whnf)) ?_
      refine tl_nil ?_
      refine q_then_n ?_
      exact ⟨_, by omega, i + 1, _, _, by omega, rfl, rfl, rfl, rfl, by rw [List.take_add_one, h2]; rfl⟩
    · try simp only [decide_eq_true_eq, decide_eq_false_iff_not, Bool.not_eq_true', Bool.not_eq_false', Option.isNone_some, Option.isNone_none, Bool.not_true, Bool.not_false] at h
      refine tc_exit ?_
      refine q_then_e (q_then_e (q_block_x (q_then_n ?_)))
      refine tc_seq ?_
      refine tc_have (fun _ _ h => ct_cap (by repeat (first | with_reducible exact ct_here | apply ct_left)) h) fun hc5 => ?_
      obtain rfl : i = (sbys s).length := by omega
      rw [List.take_length]
      refine tc_reg ?_
      refine tl_v rfl (o_move (by conv => lhs; whnf)) ?_
      refine tl_v rfl (o_assign (by conv => lhs; whnf)) ?_
      refine tl_nil ?_
      refine q_then_n ?_
      refine tc_ret ?_
      exact ⟨_, _, res1 rfl rfl, fun _ _ h => h, a5, c5, rfl, hc5, rfl⟩


theorem Two_j {A : SP} {a1 a2 : Option Addr} {m1 m2 c1 c2 b : Nat} {xs ys : List Nat} {E : TypeId} (h1 : Rs A a1 (bys xs)) (h2 : Rs A a2 (bys ys)) (e1 : xs.length = m1) (e2 : ys.length = m2) (hl : m1 + m2 ≤ 17592186044416) :
    Fn Try.prog 36 #[.slice (some ⟨b, 0, none⟩) 2 2] (A * pt b (cl [.slice a1 m1 c1, .slice a2 m2 c2] E)) (fun r B => ∃ a c, r = .slice a (m1 + m2) c ∧ m1 + m2 ≤ c ∧ B = A * pt b (cl [.slice a1 m1 c1, .slice a2 m2 c2] E) * Sl 1 (.slice a (m1 + m2) c) (m1 + m2) (bys (xs ++ ys))) := by
  subst e1 e2
  refine fn_rs (xs := [.slice a1 xs.length c1, .slice a2 ys.length c2]) rs_pt0 fun hr => ?_
  refine fn_rs h1.left fun h1 => fn_rs h2.left fun h2 => ?_
  have key := JoinN_f (A * pt b (cl [.slice a1 xs.length c1, .slice a2 ys.length c2] E)) (some ⟨b, 0, none⟩) 2 2 [xs, ys] ⟨_, rfl, hr, fun i hi => by
    match i, hi with
    | 0, _ => exact ⟨a1, c1, rfl, h1⟩
    | 1, _ => exact ⟨a2, c2, rfl, h2⟩⟩ (by simp; omega) (by simp) rfl
  have e : ([xs, ys] : List (List Nat)).flatten = xs ++ ys := by simp
  rw [e] at key
  have e3 : (xs ++ ys).length = xs.length + ys.length := by simp
  rw [e3] at key
  exact fn_sl key

theorem Two_c {A : SP} {a1 a2 : Option Addr} {m1 m2 c1 c2 : Nat} {xs ys : List Nat} (h1 : Rs A a1 (bys xs) := by repeat (first | assumption | with_reducible exact rs_sl | with_reducible exact rs_pt0 | exact rs_none | apply Rs.left)) (h2 : Rs A a2 (bys ys) := by repeat (first | assumption | with_reducible exact rs_sl | with_reducible exact rs_pt0 | exact rs_none | apply Rs.left)) (e1 : xs.length = m1 := by first | assumption | rfl) (e2 : ys.length = m2 := by first | assumption | rfl) (hl : m1 + m2 ≤ 17592186044416 := by omega) :
    Fn Try.prog 73 #[.slice a1 m1 c1, .slice a2 m2 c2] (A) (fun r B => ∃ a c, r = .slice a (m1 + m2) c ∧ m1 + m2 ≤ c ∧ B = A * Sl 1 (.slice a (m1 + m2) c) (m1 + m2) (bys (xs ++ ys))) := by
  refine fn_enterW (args := [.slice a1 m1 c1, .slice a2 m2 c2]) Try.func73 rfl Try.ntmps73 (by simp) ?_
  refine tc_seq ?_
  refine tc_reg ?_
  refine tl_v rfl (o_assign (by conv => lhs; whnf)) ?_
  refine tl_nil ?_
  refine q_then_n ?_
  refine tc_seq ?_
  refine tc_reg ?_
  refine tl_v rfl (o_move (by conv => lhs; whnf)) ?_
  refine tl_v rfl (o_move (by conv => lhs; whnf)) ?_
  refine tl_x rfl (o_buildSliceL (k := 1) (vs := [.slice a1 m1 c1, .slice a2 m2 c2]) (l := [.slice a1 m1 c1, .slice a2 m2 c2]) Try.underlying33 sz28 z28 rfl rfl (by decide) (by decide) (by intro v hv; simp at hv; rcases hv with rfl | rfl <;> rfl) rfl) ?_
  rintro _ _ ⟨b7, rfl, rfl⟩
  refine tl_c rfl (o_call bd36 rfl (Two_j h1 h2 e1 e2 hl)) ?_
  rintro _ _ ⟨a8, c8, rfl, hc8, rfl⟩
  refine tl_v rfl (o_assign (by conv => lhs; whnf)) ?_
  refine tl_nil ?_
  refine q_then_n ?_
  refine tc_ret ?_
  exact ⟨_, _, res1 rfl rfl, Dr.sat (by repeat (first | with_reducible exact dr_refl | apply dr_keep | apply dr_drop)), a8, c8, rfl, hc8, rfl⟩

end Go.Vl
