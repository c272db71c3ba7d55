/- vellumlaw10: works. Conditions: none. -/
import Derived.Test.YtimckjnnjakcoaaS7
set_option linter.unusedVariables false
set_option linter.unusedSimpArgs false
namespace Go.Vl
open Go Go.Proofs


theorem sbB_head (n : Nat) (ns : List Nat) : ∃ r, sbB (n :: ns) = magicB ++ (n % 256 :: n / 256 % 256 :: r) := by
  unfold sbB mbs
  rw [List.flatMap_cons]
  have e : le 8 n = n % 256 :: n / 256 % 256 :: le 6 (n / 256 / 256) := rfl
  rw [e]
  exact ⟨_, by simp only [List.append_assoc, List.cons_append]; rfl⟩
theorem sob_magic : Value.bool ((sob magicB).toList == (⟨#[86, 69, 76, 76, 85, 77, 48, 49]⟩ : ByteArray).toList) = .bool true := by
  rw [show sob magicB = (⟨#[86, 69, 76, 76, 85, 77, 48, 49]⟩ : ByteArray) from rfl, beq_self_eq_true]
theorem Plan_w {A : SP} : Fn Try.prog 18 #[.int .i64 36992] A (fun r B => r = .tuple #[.agg (ints [(36992 : Int), ((128 : Nat) : Int), ((32768 : Nat) : Int), ((32896 : Nat) : Int), ((16 : Nat) : Int)]).toArray, .int .i64 0] ∧ A = B) := Plan_ok (n := 36992) (by decide)
theorem Line_w {A : SP} : Fn Try.prog 20 #[.agg (ints [(36992 : Int), ((128 : Nat) : Int), ((32768 : Nat) : Int), ((32896 : Nat) : Int), ((16 : Nat) : Int)]).toArray] A (fun r B => ∃ a c, r = .tuple #[.slice a 64 c, .int .i64 0] ∧ 64 ≤ c ∧ B = A * Sl 1 (.slice a 64 c) 64 (bys (sbB [36992, 128, 32768, 32896, 16, 0]))) := Line_ok (n := 36992) (by decide)

attribute [local irreducible] crk crL crc Sl pt ro planT mbs sbB

set_option maxRecDepth 20000 in
set_option maxHeartbeats 1000000 in
theorem works_c {A : SP} :
    Fn Try.prog 24 #[] (A) (fun r B => r = .bool true ∧ A = B) := by
  refine fn_enterW (args := []) Try.func24 rfl Try.ntmps24 (by simp) ?_
  refine tc_seq ?_
  refine tc_reg ?_
  refine tl_v rfl (o_assign (by conv => lhs; whnf)) ?_
  refine tl_nil ?_
  refine q_then_n ?_
  refine tc_seq ?_
  refine tc_reg ?_
  refine tl_c rfl (o_call bd18 rfl (Plan_w)) ?_
  rintro _ _ ⟨rfl, rfl⟩
  refine tl_v rfl (o_move (by conv => lhs; whnf)) ?_
  refine tl_v rfl (o_extract rfl rfl) ?_
  refine tl_v rfl (o_extract rfl rfl) ?_
  refine tl_x rfl (o_alloc z23 rfl) ?_
  rintro _ _ ⟨b1, rfl, rfl⟩
  refine tl_u rfl (o_stUN (l' := ints [(36992 : Int), ((128 : Nat) : Int), ((32768 : Nat) : Int), ((32896 : Nat) : Int), ((16 : Nat) : Int)]) rfl (by repeat (first | with_reducible exact upd_here | with_reducible exact upd_pt | apply upd_left)) sz23 rfl rfl rfl (by simp) rfl) ?_
  refine tl_v rfl (o_assign (by conv => lhs; whnf)) ?_
  refine tl_nil ?_
  refine q_then_n ?_
  refine tc_seq ?_
  refine tc_reg ?_
  refine tl_v rfl (o_loadN (vs := ints [(36992 : Int), ((128 : Nat) : Int), ((32768 : Nat) : Int), ((32896 : Nat) : Int), ((16 : Nat) : Int)]) a23 sz23 rfl (by repeat (first | with_reducible exact has_here | with_reducible exact has_pt | apply has_left)) (by show 5 ≤ 5; decide) rfl) ?_
  refine tl_c rfl (o_call bd20 rfl (Line_w)) ?_
  rintro _ _ ⟨a11, c11, rfl, hc11, rfl⟩
  obtain ⟨rr, hrr⟩ := sbB_head 36992 [128, 32768, 32896, 16, 0]
  have hlen := sbB_len (ns := [36992, 128, 32768, 32896, 16, 0]) rfl
  have hrs : Rs (A * pt b1 (cl (ints [(36992 : Int), ((128 : Nat) : Int), ((32768 : Nat) : Int), ((32896 : Nat) : Int), ((16 : Nat) : Int)]) 23) * Sl 1 (.slice a11 64 c11) 64 (bys (sbB [36992, 128, 32768, 32896, 16, 0]))) a11 (bys (sbB [36992, 128, 32768, 32896, 16, 0])) := rs_sl
  have e8 : (bys (sbB [36992, 128, 32768, 32896, 16, 0])).take 8 = bys magicB := by rw [hrr, bys_append]; rfl
  have h8 := (rs_cut (cap := c11) (l := 0) (k := 1) hrs (by rw [bys_length, hlen]; omega)).sub 8
  rw [Nat.zero_mul, List.drop_zero, e8] at h8
  refine tl_v rfl (o_move (by conv => lhs; whnf)) ?_
  refine tl_v rfl (o_extract rfl rfl) ?_
  refine tl_v rfl (o_extract rfl rfl) ?_
  refine tl_v rfl (o_assign (by conv => lhs; whnf)) ?_
  refine tl_v rfl (o_assign (by conv => lhs; whnf)) ?_
  refine tl_nil ?_
  refine q_then_n ?_
  refine tc_seq ?_
  refine tc_reg ?_
  refine tl_v rfl (o_move (by conv => lhs; whnf)) ?_
  refine tl_v rfl (o_eqi rfl rfl) ?_
  refine tl_v rfl (o_move (by conv => lhs; whnf)) ?_
  refine tl_bool (d := 16) rfl (fun h => ?_) (fun h => ?_)
  · try simp only [decide_eq_true_eq, decide_eq_false_iff_not, Bool.not_eq_true', Bool.not_eq_false', Option.isNone_some, Option.isNone_none, Bool.not_true, Bool.not_false] at h
    refine tl_v rfl (o_move (by conv => lhs; whnf)) ?_
    refine tl_v rfl (o_eqi rfl rfl) ?_
    refine tl_v rfl (o_pick_t rfl (by conv => lhs; whnf)) ?_
    refine tl_v rfl (o_move (by conv => lhs; whnf)) ?_
    refine tl_bool (d := 20) rfl (fun h => ?_) (fun h => ?_)
    · try simp only [decide_eq_true_eq, decide_eq_false_iff_not, Bool.not_eq_true', Bool.not_eq_false', Option.isNone_some, Option.isNone_none, Bool.not_true, Bool.not_false] at h
      refine tl_v rfl (o_loadN (vs := ints [(36992 : Int), ((128 : Nat) : Int), ((32768 : Nat) : Int), ((32896 : Nat) : Int), ((16 : Nat) : Int)]) a23 sz23 rfl (by repeat (first | with_reducible exact has_here | with_reducible exact has_pt | apply has_left)) (by show 5 ≤ 5; decide) rfl) ?_
      refine tl_v rfl (o_bS (l := ints [(36992 : Int), ((128 : Nat) : Int), ((32768 : Nat) : Int), ((32896 : Nat) : Int), ((16 : Nat) : Int)]) (pv_cons (by conv => lhs; whnf) (pv_cons (by conv => lhs; whnf) (pv_cons (by conv => lhs; whnf) (pv_cons (by conv => lhs; whnf) (pv_cons (by conv => lhs; whnf) pv_nil))))) Try.underlying23 z23 (pl23 Try.underlying23) rfl) ?_
      refine tl_v rfl (o_eqst (k := 5) (l := [(36992 : Int), ((128 : Nat) : Int), ((32768 : Nat) : Int), ((32896 : Nat) : Int), ((16 : Nat) : Int)]) (m := [(36992 : Int), ((128 : Nat) : Int), ((32768 : Nat) : Int), ((32896 : Nat) : Int), ((16 : Nat) : Int)]) Try.underlying23 (by kernel_rfl) (by kernel_rfl) (by kernel_rfl) rfl rfl rfl rfl) ?_
      refine tl_v rfl (o_pick_t rfl (by conv => lhs; whnf)) ?_
      refine tl_v rfl (o_move (by conv => lhs; whnf)) ?_
      refine tl_bool (d := 25) rfl (fun h => ?_) (fun h => ?_)
      · try simp only [decide_eq_true_eq, decide_eq_false_iff_not, Bool.not_eq_true', Bool.not_eq_false', Option.isNone_some, Option.isNone_none, Bool.not_true, Bool.not_false] at h
        refine tl_v rfl (o_move (by conv => lhs; whnf)) ?_
        refine tl_v rfl (o_len Try.underlying28 rfl) ?_
        refine tl_v rfl (o_eqi rfl rfl) ?_
        refine tl_v rfl (o_pick_t rfl (by conv => lhs; whnf)) ?_
        refine tl_v rfl (o_move (by conv => lhs; whnf)) ?_
        refine tl_bool (d := 30) rfl (fun h => ?_) (fun h => ?_)
        · try simp only [decide_eq_true_eq, decide_eq_false_iff_not, Bool.not_eq_true', Bool.not_eq_false', Option.isNone_some, Option.isNone_none, Bool.not_true, Bool.not_false] at h
          refine tl_v rfl (o_move (by conv => lhs; whnf)) ?_
          refine tl_v rfl (o_slice Try.underlying28 sz5 rfl bnd_none (bnd_some rfl (by omega)) (by omega) (by omega)) ?_
          refine tl_v rfl (o_b2s (xs := magicB) Try.underlying28 Try.underlying5 Try.underlying9 rfl h8 rfl (by decide)) ?_
          refine tl_v rfl ((o_eqstr rfl rfl).cast sob_magic) ?_
          refine tl_v rfl (o_pick_t rfl (by conv => lhs; whnf)) ?_
          refine tl_v rfl (o_move (by conv => lhs; whnf)) ?_
          refine tl_bool (d := 36) rfl (fun h => ?_) (fun h => ?_)
          · try simp only [decide_eq_true_eq, decide_eq_false_iff_not, Bool.not_eq_true', Bool.not_eq_false', Option.isNone_some, Option.isNone_none, Bool.not_true, Bool.not_false] at h
            refine tl_v rfl (o_move (by conv => lhs; whnf)) ?_
            refine tl_v rfl (o_ixP1 (j := 8) Try.underlying28 sz5 rfl rfl (by decide) (nn_rs hrs (fun _ => by rw [bys_length, hlen]; decide))) ?_
            refine tl_v rfl (o_ldP (v := .int .u8 128) p5 rfl hrs (by rw [hrr]; rfl)) ?_
            refine tl_v rfl (o_eqi rfl rfl) ?_
            refine tl_v rfl (o_pick_t rfl (by conv => lhs; whnf)) ?_
            refine tl_v rfl (o_move (by conv => lhs; whnf)) ?_
            refine tl_bool (d := 42) rfl (fun h => ?_) (fun h => ?_)
            · try simp only [decide_eq_true_eq, decide_eq_false_iff_not, Bool.not_eq_true', Bool.not_eq_false', Option.isNone_some, Option.isNone_none, Bool.not_true, Bool.not_false] at h
              refine tl_v rfl (o_move (by conv => lhs; whnf)) ?_
              refine tl_v rfl (o_ixP1 (j := 9) Try.underlying28 sz5 rfl rfl (by decide) (nn_rs hrs (fun _ => by rw [bys_length, hlen]; decide))) ?_
              refine tl_v rfl (o_ldP (v := .int .u8 144) p5 rfl hrs (by rw [hrr]; rfl)) ?_
              refine tl_v rfl (o_eqi rfl rfl) ?_
              refine tl_v rfl (o_pick_t rfl (by conv => lhs; whnf)) ?_
              refine tl_v rfl (o_assign (by conv => lhs; whnf)) ?_
              refine tl_nil ?_
              refine q_then_n ?_
              refine tc_ret ?_
              exact ⟨.bool true, A, res1 rfl rfl, Dr.sat (by repeat (first | with_reducible exact dr_refl | apply dr_keep | apply dr_drop)), rfl, rfl⟩
            · (exfalso; first | (revert h; simp; done) | (simp at h; done) | (revert h; simp; omega) | (simp at h; omega) | omega)
          · (exfalso; first | (revert h; simp; done) | (simp at h; done) | (revert h; simp; omega) | (simp at h; omega) | omega)
        · (exfalso; first | (revert h; simp; done) | (simp at h; done) | (revert h; simp; omega) | (simp at h; omega) | omega)
      · (exfalso; first | (revert h; simp; done) | (simp at h; done) | (revert h; simp; omega) | (simp at h; omega) | omega)
    · (exfalso; first | (revert h; simp; done) | (simp at h; done) | (revert h; simp; omega) | (simp at h; omega) | omega)
  · (exfalso; first | (revert h; simp; done) | (simp at h; done) | (revert h; simp; omega) | (simp at h; omega) | omega)

end Go.Vl
