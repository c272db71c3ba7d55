/- A plan's superblock, by the program. Conditions: none. -/
import Derived.Test.YtimckjnnjakcoaaS5
set_option linter.unusedVariables false
set_option linter.unusedSimpArgs false
namespace Go.Vl
open Go Go.Proofs


theorem planL_ok {n : Nat} (hn : 36992 ≤ n ∧ n ≤ 4194304 ∧ n % 64 = 0) : planT (n : Int) = ([(n : Int), ((128 : Nat) : Int), ((32768 : Nat) : Int), ((32896 : Nat) : Int), (((n - 32896) / 256 : Nat) : Int)], 0) := by
  rw [planT_t (by omega)]
  unfold planL
  have : ((n : Int) - 32896) / 256 = (((n - 32896) / 256 : Nat) : Int) := by omega
  rw [this]; rfl


theorem Plan_ok {A : SP} {n : Nat} (hn : 36992 ≤ n ∧ n ≤ 4194304 ∧ n % 64 = 0) : Fn Try.prog 18 #[.int .i64 (n : Int)] A (fun r B => r = .tuple #[.agg (ints [(n : Int), ((128 : Nat) : Int), ((32768 : Nat) : Int), ((32896 : Nat) : Int), (((n - 32896) / 256 : Nat) : Int)]).toArray, .int .i64 0] ∧ A = B) := by
  have := Plan_c (A := A) (n := (n : Int))
  rw [planL_ok hn] at this; exact this


theorem PlanR_ok {A : SP} {n : Nat} (hn : 36992 ≤ n ∧ n ≤ 4194304 ∧ n % 64 = 0) : Fn Try.prog 19 #[.int .i64 (n : Int)] A (fun r B => r = .tuple #[.agg (ints [(n : Int), ((128 : Nat) : Int), ((32768 : Nat) : Int), ((32896 : Nat) : Int), (((n - 32896) / 256 : Nat) : Int)]).toArray, .int .i64 0] ∧ A = B) := by
  have := PlanR_c (A := A) (n := (n : Int))
  rw [planL_ok hn] at this; exact this

attribute [local irreducible] crk crL crc Sl pt ro planT mbs sbB

set_option maxRecDepth 20000 in
set_option maxHeartbeats 1000000 in
theorem Line_ok {A : SP} {n : Nat} (hn : 36992 ≤ n ∧ n ≤ 4194304 ∧ n % 64 = 0) :
    Fn Try.prog 20 #[.agg (ints [(n : Int), ((128 : Nat) : Int), ((32768 : Nat) : Int), ((32896 : Nat) : Int), (((n - 32896) / 256 : Nat) : Int)]).toArray] (A) (fun r B => ∃ a c, r = .tuple #[.slice a 64 c, .int .i64 0] ∧ 64 ≤ c ∧ B = A * Sl 1 (.slice a 64 c) 64 (bys (sbB [n, 128, 32768, 32896, (n - 32896) / 256, 0]))) := by
  refine fn_enterW (args := [.agg (ints [(n : Int), ((128 : Nat) : Int), ((32768 : Nat) : Int), ((32896 : Nat) : Int), (((n - 32896) / 256 : Nat) : Int)]).toArray]) Try.func20 rfl Try.ntmps20 (by simp) ?_
  refine tc_seq ?_
  refine tc_reg ?_
  refine tl_x rfl (o_box rfl rfl) ?_
  rintro _ _ ⟨b1, rfl, rfl⟩
  refine tl_v rfl (o_assign (by conv => lhs; whnf)) ?_
  refine tl_v rfl (o_assign (by conv => lhs; whnf)) ?_
  refine tl_nil ?_
  refine q_then_n ?_
  refine tc_seq ?_
  refine tc_seq ?_
  refine tc_reg ?_
  refine tl_v rfl (o_fieldAddr (o := 0) Try.underlying23 rfl rfl sz3 rfl) ?_
  refine tl_v rfl (by first | exact o_load p3 rfl (by repeat (first | with_reducible exact has_here | with_reducible exact has_pt | apply has_left)) rfl | exact o_loadC p3 rfl (by assumption)) ?_
  refine tl_c rfl (o_call bd18 rfl (Plan_ok hn)) ?_
  rintro _ _ ⟨rfl, rfl⟩
  refine tl_v rfl (o_move (by conv => lhs; whnf)) ?_
  refine tl_v rfl (o_extract rfl rfl) ?_
  refine tl_v rfl (o_extract rfl rfl) ?_
  refine tl_x rfl (o_alloc z23 rfl) ?_
  rintro _ _ ⟨b4, rfl, rfl⟩
  refine tl_u rfl (o_stUN (l' := ints [(n : Int), ((128 : Nat) : Int), ((32768 : Nat) : Int), ((32896 : Nat) : Int), (((n - 32896) / 256 : Nat) : Int)]) rfl (by repeat (first | with_reducible exact upd_here | with_reducible exact upd_pt | apply upd_left)) sz23 rfl rfl rfl (by simp) rfl) ?_
  refine tl_v rfl (o_assign (by conv => lhs; whnf)) ?_
  refine tl_nil ?_
  refine q_then_n ?_
  refine tc_seq ?_
  refine tc_reg ?_
  refine tl_v rfl (o_move (by conv => lhs; whnf)) ?_
  refine tl_v rfl (o_nei rfl rfl) ?_
  refine tl_v rfl (o_move (by conv => lhs; whnf)) ?_
  refine tl_bool (d := 15) rfl (fun h => ?_) (fun h => ?_)
  · (exfalso; first | (revert h; simp; done) | (simp at h; done) | (revert h; simp; omega) | (simp at h; omega) | omega)
  · try simp only [decide_eq_true_eq, decide_eq_false_iff_not, Bool.not_eq_true', Bool.not_eq_false', Option.isNone_some, Option.isNone_none, Bool.not_true, Bool.not_false] at h
    refine tl_v rfl (o_loadN (vs := ints [(n : Int), ((128 : Nat) : Int), ((32768 : Nat) : Int), ((32896 : Nat) : Int), (((n - 32896) / 256 : Nat) : Int)]) a23 sz23 rfl (by repeat (first | with_reducible exact has_here | with_reducible exact has_pt | apply has_left)) (by show 5 ≤ 5; decide) rfl) ?_
    refine tl_v rfl (o_loadN (vs := ints [(n : Int), ((128 : Nat) : Int), ((32768 : Nat) : Int), ((32896 : Nat) : Int), (((n - 32896) / 256 : Nat) : Int)]) a23 sz23 rfl (by repeat (first | with_reducible exact has_here | with_reducible exact has_pt | apply has_left)) (by show 5 ≤ 5; decide) rfl) ?_
    refine tl_v rfl (o_nest (k := 5) (l := [(n : Int), ((128 : Nat) : Int), ((32768 : Nat) : Int), ((32896 : Nat) : Int), (((n - 32896) / 256 : Nat) : Int)]) (m := [(n : Int), ((128 : Nat) : Int), ((32768 : Nat) : Int), ((32896 : Nat) : Int), (((n - 32896) / 256 : Nat) : Int)]) Try.underlying23 (by kernel_rfl) (by kernel_rfl) (by kernel_rfl) rfl rfl rfl rfl) ?_
    refine tl_v rfl (o_pick_f rfl (by conv => lhs; whnf)) ?_
    refine tl_nil ?_
    refine q_then_n ?_
    refine tc_cond rfl (fun h => ?_) (fun h => ?_)
    · exfalso; simp at h
    · try simp only [decide_eq_true_eq, decide_eq_false_iff_not, Bool.not_eq_true', Bool.not_eq_false', Option.isNone_some, Option.isNone_none, Bool.not_true, Bool.not_false] at h
      refine tc_skip ?_
      refine q_then_n ?_
      refine tc_seq ?_
      refine tc_reg ?_
      refine tl_v rfl (o_loadN (vs := ints [(n : Int), ((128 : Nat) : Int), ((32768 : Nat) : Int), ((32896 : Nat) : Int), (((n - 32896) / 256 : Nat) : Int)]) a23 sz23 rfl (by repeat (first | with_reducible exact has_here | with_reducible exact has_pt | apply has_left)) (by show 5 ≤ 5; decide) rfl) ?_
      refine tl_c rfl (o_call bd83 rfl (laid_c (by omega))) ?_
      rintro _ _ ⟨rfl, rfl⟩
      refine tl_x rfl (o_alloc z139 rfl) ?_
      rintro _ _ ⟨b6, rfl, rfl⟩
      refine tl_u rfl (o_stUN (l' := bys (sbB [n, 128, 32768, 32896, (n - 32896) / 256, 0])) rfl (by repeat (first | with_reducible exact upd_here | with_reducible exact upd_pt | apply upd_left)) sz139 rfl (by rw [bys_length, sbB_len rfl]) (bys_all _) (by simp) (splice_whole (by rw [bys_length, sbB_len rfl]; rfl))) ?_
      refine tl_nil ?_
      refine q_then_n ?_
      refine tc_seq ?_
      refine tc_reg ?_
      refine tl_v rfl (o_sliceA Try.underlying139 sz5 rfl bnd_none bnd_none (by omega) (by omega)) ?_
      refine tl_v rfl (o_assign (by conv => lhs; whnf)) ?_
      refine tl_v rfl (o_assign (by conv => lhs; whnf)) ?_
      refine tl_nil ?_
      refine q_then_n ?_
      refine tc_ret ?_
      exact ⟨.tuple #[.slice (some ⟨b6, 0, none⟩) 64 64, .int .i64 0], A * Sl 1 (.slice (some ⟨b6, 0, none⟩) 64 64) 64 (bys (sbB [n, 128, 32768, 32896, (n - 32896) / 256, 0])), res2 rfl rfl rfl, fun _ _ h => (Dr.sat (by repeat (first | with_reducible exact dr_refl | apply dr_keep | apply dr_drop))) _ _ (sl_new (k := 1) (n := 64) (cap := 64) (xs := bys (sbB [n, 128, 32768, 32896, (n - 32896) / 256, 0])) h (by omega) (by rw [bys_length, sbB_len rfl]; decide) (by exact List.take_of_length_le (by rw [bys_length, sbB_len rfl]; decide))), _, _, rfl, by decide, rfl⟩

set_option maxRecDepth 20000 in
set_option maxHeartbeats 1000000 in
theorem Line_no {A : SP} {i0 i1 i2 i3 i4 : Int} (hn : planT i0 ≠ ([i0, i1, i2, i3, i4], 0)) :
    Fn Try.prog 20 #[.agg (ints [i0, i1, i2, i3, i4]).toArray] (A) (fun r B => r = .tuple #[.slice none 0 0, .int .i64 100] ∧ A = B) := by
  refine fn_enterW (args := [.agg (ints [i0, i1, i2, i3, i4]).toArray]) Try.func20 rfl Try.ntmps20 (by simp) ?_
  refine tc_seq ?_
  refine tc_reg ?_
  refine tl_x rfl (o_box rfl rfl) ?_
  rintro _ _ ⟨b1, rfl, rfl⟩
  refine tl_v rfl (o_assign (by conv => lhs; whnf)) ?_
  refine tl_v rfl (o_assign (by conv => lhs; whnf)) ?_
  refine tl_nil ?_
  refine q_then_n ?_
  refine tc_seq ?_
  refine tc_seq ?_
  refine tc_reg ?_
  refine tl_v rfl (o_fieldAddr (o := 0) Try.underlying23 rfl rfl sz3 rfl) ?_
  refine tl_v rfl (by first | exact o_load p3 rfl (by repeat (first | with_reducible exact has_here | with_reducible exact has_pt | apply has_left)) rfl | exact o_loadC p3 rfl (by assumption)) ?_
  refine tl_c rfl (o_call bd18 rfl (Plan_c)) ?_
  rintro _ _ ⟨rfl, rfl⟩
  refine tl_v rfl (o_move (by conv => lhs; whnf)) ?_
  refine tl_v rfl (o_extract rfl rfl) ?_
  refine tl_v rfl (o_extract rfl rfl) ?_
  refine tl_x rfl (o_alloc z23 rfl) ?_
  rintro _ _ ⟨b4, rfl, rfl⟩
  refine tl_u rfl (o_stUN (l' := ints (planT i0).1) rfl (by repeat (first | with_reducible exact upd_here | with_reducible exact upd_pt | apply upd_left)) sz23 rfl (by rw [ints_length, planT_len]) (ints_all _) (by simp) (splice_whole (by rw [ints_length, planT_len]; rfl))) ?_
  refine tl_v rfl (o_assign (by conv => lhs; whnf)) ?_
  refine tl_nil ?_
  refine q_then_n ?_
  refine tc_seq ?_
  refine tc_reg ?_
  refine tl_v rfl (o_move (by conv => lhs; whnf)) ?_
  refine tl_v rfl (o_nei rfl rfl) ?_
  refine tl_v rfl (o_move (by conv => lhs; whnf)) ?_
  refine tl_bool (d := 15) rfl (fun h => ?_) (fun h => ?_)
  · try simp only [decide_eq_true_eq, decide_eq_false_iff_not, Bool.not_eq_true', Bool.not_eq_false', Option.isNone_some, Option.isNone_none, Bool.not_true, Bool.not_false] at h
    refine tl_skip rfl ?_
    refine tl_skip rfl ?_
    refine tl_skip rfl ?_
    refine tl_v rfl (o_pick_t rfl (by conv => lhs; whnf)) ?_
    refine tl_nil ?_
    refine q_then_n ?_
    refine tc_cond_t rfl ?_
    refine tc_seq ?_
    refine tc_reg ?_
    refine tl_v rfl (o_assign (by conv => lhs; whnf)) ?_
    refine tl_v rfl (o_assign (by conv => lhs; whnf)) ?_
    refine tl_nil ?_
    refine q_then_n ?_
    refine tc_ret ?_
    refine q_then_r ?_
    exact ⟨.tuple #[.slice none 0 0, .int .i64 100], A, res2 rfl rfl rfl, Dr.sat (by repeat (first | with_reducible exact dr_refl | apply dr_keep | apply dr_drop)), rfl, rfl⟩
  · try simp only [decide_eq_true_eq, decide_eq_false_iff_not, Bool.not_eq_true', Bool.not_eq_false', Option.isNone_some, Option.isNone_none, Bool.not_true, Bool.not_false] at h
    refine tl_v rfl (o_loadN (vs := ints (planT i0).1) a23 sz23 rfl (by repeat (first | with_reducible exact has_here | with_reducible exact has_pt | apply has_left)) (by rw [ints_length, planT_len]; decide) (by rw [List.drop_zero]; exact List.take_of_length_le (by rw [ints_length, planT_len]; decide))) ?_
    refine tl_v rfl (o_loadN (vs := ints [i0, i1, i2, i3, i4]) a23 sz23 rfl (by repeat (first | with_reducible exact has_here | with_reducible exact has_pt | apply has_left)) (by show 5 ≤ 5; decide) rfl) ?_
    refine tl_v rfl (o_nest (k := 5) (l := (planT i0).1) (m := [i0, i1, i2, i3, i4]) Try.underlying23 (by kernel_rfl) (by kernel_rfl) (by kernel_rfl) rfl rfl (planT_len _) rfl) ?_
    refine tl_v rfl (o_pick_f rfl (by conv => lhs; whnf)) ?_
    refine tl_nil ?_
    refine q_then_n ?_
    refine tc_cond rfl (fun h => ?_) (fun h => ?_)
    · try simp only [decide_eq_true_eq, decide_eq_false_iff_not, Bool.not_eq_true', Bool.not_eq_false', Option.isNone_some, Option.isNone_none, Bool.not_true, Bool.not_false] at h
      refine tc_seq ?_
      refine tc_reg ?_
      refine tl_v rfl (o_assign (by conv => lhs; whnf)) ?_
      refine tl_v rfl (o_assign (by conv => lhs; whnf)) ?_
      refine tl_nil ?_
      refine q_then_n ?_
      refine tc_ret ?_
      refine q_then_r ?_
      exact ⟨.tuple #[.slice none 0 0, .int .i64 100], A, res2 rfl rfl rfl, Dr.sat (by repeat (first | with_reducible exact dr_refl | apply dr_keep | apply dr_drop)), rfl, rfl⟩
    · exfalso; rename_i h0; apply hn; simp at h; exact Prod.ext h (by simpa using h0)

end Go.Vl
