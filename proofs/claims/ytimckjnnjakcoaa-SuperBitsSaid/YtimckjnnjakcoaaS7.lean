/- A plan's superblock, by the document. Conditions: none. -/
import Derived.Test.YtimckjnnjakcoaaS6
set_option linter.unusedVariables false
set_option linter.unusedSimpArgs false
namespace Go.Vl
open Go Go.Proofs


theorem Text_m {A : SP} : Fn Try.prog 84 #[.string ⟨#[86, 69, 76, 76, 85, 77, 48, 49]⟩] A (fun r B => ∃ a c, r = .slice a 8 c ∧ 8 ≤ c ∧ B = A * Sl 1 (.slice a 8 c) 8 (bys magicB)) := Text_c (s := ⟨#[86, 69, 76, 76, 85, 77, 48, 49]⟩)
theorem sbB_def (ns : List Nat) : sbB ns = mbs ns ++ le 8 (crc 0 (mbs ns)) := rfl

attribute [local irreducible] crk crL crc Sl pt ro planT mbs sbB

set_option maxRecDepth 20000 in
set_option maxHeartbeats 1000000 in
theorem LineR_ok {A : SP} {n : Nat} (hn : 36992 ≤ n ∧ n ≤ 4194304 ∧ n % 64 = 0) :
    Fn Try.prog 21 #[.agg (ints [(n : Int), ((128 : Nat) : Int), ((32768 : Nat) : Int), ((32896 : Nat) : Int), (((n - 32896) / 256 : Nat) : Int)]).toArray] (A) (fun r B => ∃ a c, r = .tuple #[.slice a 64 c, .int .i64 0] ∧ 64 ≤ c ∧ B = A * Sl 1 (.slice a 64 c) 64 (bys (sbB [n, 128, 32768, 32896, (n - 32896) / 256, 0]))) := by
  refine fn_enterW (args := [.agg (ints [(n : Int), ((128 : Nat) : Int), ((32768 : Nat) : Int), ((32896 : Nat) : Int), (((n - 32896) / 256 : Nat) : Int)]).toArray]) Try.func21 rfl Try.ntmps21 (by simp) ?_
  refine tc_seq ?_
  refine tc_reg ?_
  refine tl_x rfl (o_box rfl rfl) ?_
  rintro _ _ ⟨b1, rfl, rfl⟩
  refine tl_v rfl (o_assign (by conv => lhs; whnf)) ?_
  refine tl_v rfl (o_assign (by conv => lhs; whnf)) ?_
  refine tl_nil ?_
  refine q_then_n ?_
  refine tc_seq ?_
  refine tc_reg ?_
  refine tl_v rfl (o_fieldAddr (o := 0) Try.underlying23 rfl rfl sz3 rfl) ?_
  refine tl_v rfl (by first | exact o_load p3 rfl (by repeat (first | with_reducible exact has_here | with_reducible exact has_pt | apply has_left)) rfl | exact o_loadC p3 rfl (by assumption)) ?_
  refine tl_c rfl (o_call bd19 rfl (PlanR_ok hn)) ?_
  rintro _ _ ⟨rfl, rfl⟩
  refine tl_v rfl (o_move (by conv => lhs; whnf)) ?_
  refine tl_v rfl (o_extract rfl rfl) ?_
  refine tl_v rfl (o_extract rfl rfl) ?_
  refine tl_x rfl (o_alloc z23 rfl) ?_
  rintro _ _ ⟨b4, rfl, rfl⟩
  refine tl_u rfl (o_stUN (l' := ints [(n : Int), ((128 : Nat) : Int), ((32768 : Nat) : Int), ((32896 : Nat) : Int), (((n - 32896) / 256 : Nat) : Int)]) rfl (by repeat (first | with_reducible exact upd_here | with_reducible exact upd_pt | apply upd_left)) sz23 rfl rfl rfl (by simp) rfl) ?_
  refine tl_v rfl (o_assign (by conv => lhs; whnf)) ?_
  refine tl_nil ?_
  refine q_then_n ?_
  refine tc_seq ?_
  refine tc_seq ?_
  refine tc_reg ?_
  refine tl_v rfl (o_move (by conv => lhs; whnf)) ?_
  refine tl_v rfl (o_nei rfl rfl) ?_
  refine tl_v rfl (o_move (by conv => lhs; whnf)) ?_
  refine tl_bool (d := 17) rfl (fun h => ?_) (fun h => ?_)
  · (exfalso; first | (revert h; simp; done) | (simp at h; done) | (revert h; simp; omega) | (simp at h; omega) | omega)
  · try simp only [decide_eq_true_eq, decide_eq_false_iff_not, Bool.not_eq_true', Bool.not_eq_false', Option.isNone_some, Option.isNone_none, Bool.not_true, Bool.not_false] at h
    refine tl_v rfl (o_loadN (vs := ints [(n : Int), ((128 : Nat) : Int), ((32768 : Nat) : Int), ((32896 : Nat) : Int), (((n - 32896) / 256 : Nat) : Int)]) a23 sz23 rfl (by repeat (first | with_reducible exact has_here | with_reducible exact has_pt | apply has_left)) (by show 5 ≤ 5; decide) rfl) ?_
    refine tl_v rfl (o_loadN (vs := ints [(n : Int), ((128 : Nat) : Int), ((32768 : Nat) : Int), ((32896 : Nat) : Int), (((n - 32896) / 256 : Nat) : Int)]) a23 sz23 rfl (by repeat (first | with_reducible exact has_here | with_reducible exact has_pt | apply has_left)) (by show 5 ≤ 5; decide) rfl) ?_
    refine tl_v rfl (o_nest (k := 5) (l := [(n : Int), ((128 : Nat) : Int), ((32768 : Nat) : Int), ((32896 : Nat) : Int), (((n - 32896) / 256 : Nat) : Int)]) (m := [(n : Int), ((128 : Nat) : Int), ((32768 : Nat) : Int), ((32896 : Nat) : Int), (((n - 32896) / 256 : Nat) : Int)]) Try.underlying23 (by kernel_rfl) (by kernel_rfl) (by kernel_rfl) rfl rfl rfl rfl) ?_
    refine tl_v rfl (o_pick_f rfl (by conv => lhs; whnf)) ?_
    refine tl_nil ?_
    refine q_then_n ?_
    refine tc_cond rfl (fun h => ?_) (fun h => ?_)
    · exfalso; simp at h
    · try simp only [decide_eq_true_eq, decide_eq_false_iff_not, Bool.not_eq_true', Bool.not_eq_false', Option.isNone_some, Option.isNone_none, Bool.not_true, Bool.not_false] at h
      refine tc_skip ?_
      refine q_then_n ?_
      refine tc_seq ?_
      refine tc_reg ?_
      refine tl_c rfl (o_call bd84 rfl (Text_m)) ?_
      rintro _ _ ⟨a22, c22, rfl, hc22, rfl⟩
      refine tl_v rfl (o_assign (by conv => lhs; whnf)) ?_
      refine tl_nil ?_
      refine q_then_n ?_
      refine tc_seq ?_
      refine tc_reg ?_
      refine tl_v rfl (o_fieldAddr (o := 0) Try.underlying23 rfl rfl sz3 rfl) ?_
      refine tl_v rfl (by first | exact o_load p3 rfl (by repeat (first | with_reducible exact has_here | with_reducible exact has_pt | apply has_left)) rfl | exact o_loadC p3 rfl (by assumption)) ?_
      refine tl_v rfl (o_fieldAddr (o := 1) Try.underlying23 rfl rfl sz3 rfl) ?_
      refine tl_v rfl (by first | exact o_load p3 rfl (by repeat (first | with_reducible exact has_here | with_reducible exact has_pt | apply has_left)) rfl | exact o_loadC p3 rfl (by assumption)) ?_
      refine tl_v rfl (o_fieldAddr (o := 2) Try.underlying23 rfl rfl sz3 rfl) ?_
      refine tl_v rfl (by first | exact o_load p3 rfl (by repeat (first | with_reducible exact has_here | with_reducible exact has_pt | apply has_left)) rfl | exact o_loadC p3 rfl (by assumption)) ?_
      refine tl_v rfl (o_fieldAddr (o := 3) Try.underlying23 rfl rfl sz3 rfl) ?_
      refine tl_v rfl (by first | exact o_load p3 rfl (by repeat (first | with_reducible exact has_here | with_reducible exact has_pt | apply has_left)) rfl | exact o_loadC p3 rfl (by assumption)) ?_
      refine tl_v rfl (o_fieldAddr (o := 4) Try.underlying23 rfl rfl sz3 rfl) ?_
      refine tl_v rfl (by first | exact o_load p3 rfl (by repeat (first | with_reducible exact has_here | with_reducible exact has_pt | apply has_left)) rfl | exact o_loadC p3 rfl (by assumption)) ?_
      refine tl_x rfl (o_buildSliceL (k := 1) (vs := ints [(n : Int), ((128 : Nat) : Int), ((32768 : Nat) : Int), ((32896 : Nat) : Int), (((n - 32896) / 256 : Nat) : Int), ((0 : Nat) : Int)]) (l := ints [(n : Int), ((128 : Nat) : Int), ((32768 : Nat) : Int), ((32896 : Nat) : Int), (((n - 32896) / 256 : Nat) : Int), ((0 : Nat) : Int)]) Try.underlying37 sz3 z3 rfl rfl (by decide) (by decide) (by intro v hv; have := List.all_eq_true.1 (ints_all [(n : Int), ((128 : Nat) : Int), ((32768 : Nat) : Int), ((32896 : Nat) : Int), (((n - 32896) / 256 : Nat) : Int), ((0 : Nat) : Int)]) v hv; cases v <;> first | (simp [oneC] at this; done) | rfl) rfl) ?_
      rintro _ _ ⟨b33, rfl, rfl⟩
      refine tl_v rfl (o_assign (by conv => lhs; whnf)) ?_
      refine tl_nil ?_
      refine q_then_n ?_
      refine tc_seq ?_
      refine tc_seq ?_
      refine tc_reg ?_
      refine tl_v rfl (o_assign (by conv => lhs; whnf)) ?_
      refine tl_nil ?_
      refine q_then_n ?_
      refine tc_block ?_
      refine tc_eq (star_swap _ _ _) ?_
      refine tc_loop (fun kk ρ BB => ∃ (i : Nat) (a6 : Option Addr) (c6 : Nat) (X : SP), (i ≤ 6) ∧ (Rs (A * pt b1 (cl (ints [(n : Int), ((128 : Nat) : Int), ((32768 : Nat) : Int), ((32896 : Nat) : Int), (((n - 32896) / 256 : Nat) : Int)]) 23) * pt b4 (cl (ints [(n : Int), ((128 : Nat) : Int), ((32768 : Nat) : Int), ((32896 : Nat) : Int), (((n - 32896) / 256 : Nat) : Int)]) 23) * pt b33 (cl (ints [(n : Int), ((128 : Nat) : Int), ((32768 : Nat) : Int), ((32896 : Nat) : Int), (((n - 32896) / 256 : Nat) : Int), ((0 : Nat) : Int)]) 3) * X) a6 (bys (mbs (([n, 128, 32768, 32896, (n - 32896) / 256, 0] : List Nat).take i)))) ∧ kk = 6 - i ∧ ρ 6 = .slice a6 (8 + 8 * i) c6 ∧ ρ 8 = .int .i64 (i : Nat) ∧ ρ 7 = .slice (some ⟨b33, 0, none⟩) 6 6 ∧ BB = A * pt b1 (cl (ints [(n : Int), ((128 : Nat) : Int), ((32768 : Nat) : Int), ((32896 : Nat) : Int), (((n - 32896) / 256 : Nat) : Int)]) 23) * pt b4 (cl (ints [(n : Int), ((128 : Nat) : Int), ((32768 : Nat) : Int), ((32896 : Nat) : Int), (((n - 32896) / 256 : Nat) : Int)]) 23) * pt b33 (cl (ints [(n : Int), ((128 : Nat) : Int), ((32768 : Nat) : Int), ((32896 : Nat) : Int), (((n - 32896) / 256 : Nat) : Int), ((0 : Nat) : Int)]) 3) * X) (m := 6 - (0)) ?_ ?_
      · exact ⟨0, a22, c22, Sl 1 (.slice a22 8 c22) 8 (bys magicB), by omega, by rw [List.take_zero, mbs_nil]; exact rs_sl, rfl, rfl, rfl, rfl, rfl⟩
      · intro k ρ B hI
        obtain ⟨i, a6, c6, X, hp0, hp1, hkk1, hE6, hE8, hE7, rfl⟩ := hI
        refine tc_env (d := 6) hE6 ?_
        refine tc_env (d := 8) hE8 ?_
        refine tc_env (d := 7) hE7 ?_
        clear hE6 hE8 hE7
        refine tc_seq ?_
        refine tc_seq ?_
        refine tc_reg ?_
        refine tl_v rfl (o_move (by conv => lhs; whnf)) ?_
        refine tl_v rfl (o_move (by conv => lhs; whnf)) ?_
        refine tl_v rfl (o_len Try.underlying37 rfl) ?_
        refine tl_v rfl (o_lss rfl rfl) ?_
        refine tl_nil ?_
        refine q_then_n ?_
        refine tc_cond rfl (fun h => ?_) (fun h => ?_)
        · have hi : i < 6 := by simp at h; omega
          obtain ⟨v, hv1, hv2, hv3⟩ : ∃ v : Nat, (ints [(n : Int), ((128 : Nat) : Int), ((32768 : Nat) : Int), ((32896 : Nat) : Int), (((n - 32896) / 256 : Nat) : Int), ((0 : Nat) : Int)])[i]? = some (.int .i64 (v : Int)) ∧ ([n, 128, 32768, 32896, (n - 32896) / 256, 0] : List Nat)[i]? = some v ∧ v < 9223372036854775808 := by
            match i, hi with
            | 0, _ => exact ⟨n, rfl, rfl, by omega⟩
            | 1, _ => exact ⟨128, rfl, rfl, by decide⟩
            | 2, _ => exact ⟨32768, rfl, rfl, by decide⟩
            | 3, _ => exact ⟨32896, rfl, rfl, by decide⟩
            | 4, _ => exact ⟨(n - 32896) / 256, rfl, rfl, by omega⟩
            | 5, _ => exact ⟨0, rfl, rfl, by decide⟩
          have hml : (mbs (([n, 128, 32768, 32896, (n - 32896) / 256, 0] : List Nat).take i)).length = 8 + 8 * i := by rw [mbs_len, List.length_take]; simp; omega
          refine tc_skip ?_
          refine q_then_n ?_
          refine tc_seq ?_
          refine tc_block ?_
          refine tc_reg ?_
          refine tl_v rfl (o_move (by conv => lhs; whnf)) ?_
          refine tl_v rfl (o_move (by conv => lhs; whnf)) ?_
          refine tl_v rfl (o_move (by conv => lhs; whnf)) ?_
          refine tl_v rfl (o_ixP1 (a := some ⟨b33, 0, none⟩) Try.underlying37 sz3 rfl rfl (by omega) nn_some) ?_
          refine tl_v rfl (o_ldP (a := some ⟨b33, 0, none⟩) p3 rfl rs_pt0.left hv1) ?_
          refine tl_v rfl (by first | exact o_conv64 Try.underlying3 Try.underlying53 rfl | exact o_conv Try.underlying3 Try.underlying53 rfl) ?_
          refine tl_env (d := 45) (v := .int .u64 ((v : Nat) : Int)) (congrArg (fun z : Nat => Value.int .u64 (z : Int)) (Nat.mod_eq_of_lt (by omega))) ?_
          refine tl_c rfl (o_call bd74 rfl (Little_c (v := v) (n := 8))) ?_
          rintro _ _ ⟨a46, c46, rfl, hc46, rfl⟩
          refine tl_c rfl (o_call bd73 rfl (Two_c (h1 := hp1.left) (h2 := rs_sl) (e1 := hml) (e2 := le_length 8 v) (hl := by omega))) ?_
          rintro _ _ ⟨a47, c47, rfl, hc47, rfl⟩
          refine tl_v rfl (o_assign (by conv => lhs; whnf)) ?_
          refine tl_nil ?_
          refine q_block_n (q_then_n ?_)
          refine tc_reg ?_
          refine tl_v rfl (o_move (by conv => lhs; whnf)) ?_
          refine tl_v rfl (by first | exact o_addI rfl rfl (by omega) | exact o_add rfl rfl) ?_
          refine tl_v rfl (o_assign (by conv => lhs; whnf)) ?_
          refine tl_nil ?_
          refine q_then_n ?_
          exact ⟨_, by omega, i + 1, _, _, X * Sl 1 (.slice a46 8 c46) 8 (bys (le 8 v)) * Sl 1 (.slice a47 (8 + 8 * i + 8) c47) (8 + 8 * i + 8) (bys (mbs (([n, 128, 32768, 32896, (n - 32896) / 256, 0] : List Nat).take i) ++ le 8 v)), by omega, by rw [mbs_take hv2, ← star_assoc, ← star_assoc]; exact rs_sl, rfl, rfl, rfl, rfl, (by rw [← star_assoc, ← star_assoc])⟩
        · obtain rfl : i = 6 := by simp at h; omega
          rw [show ([n, 128, 32768, 32896, (n - 32896) / 256, 0] : List Nat).take 6 = [n, 128, 32768, 32896, (n - 32896) / 256, 0] from rfl] at hp1
          have hml : (mbs [n, 128, 32768, 32896, (n - 32896) / 256, 0]).length = 56 := mbs_len _
          have hmb := mbs_lt [n, 128, 32768, 32896, (n - 32896) / 256, 0]
          have hcc := crc_lt (s := 0) (by decide) hmb
          refine tc_exit ?_
          refine q_then_e (q_then_e (q_block_x (q_then_n ?_)))
          refine tc_seq ?_
          refine tc_reg ?_
          refine tl_v rfl (o_move (by conv => lhs; whnf)) ?_
          refine tl_v rfl (o_move (by conv => lhs; whnf)) ?_
          refine tl_c rfl (o_call bd85 rfl (SumR_c (hr := hp1) (hm := hml) (hb := hmb) (hl := by decide))) ?_
          rintro _ _ ⟨rfl, rfl⟩
          refine tl_v rfl (by first | exact o_conv64 Try.underlying114 Try.underlying53 rfl | exact o_conv Try.underlying114 Try.underlying53 rfl) ?_
          refine tl_env (d := 51) (v := .int .u64 ((crc 0 (mbs [n, 128, 32768, 32896, (n - 32896) / 256, 0]) : Nat) : Int)) (congrArg (fun z : Nat => Value.int .u64 (z : Int)) (Nat.mod_eq_of_lt (by omega))) ?_
          refine tl_c rfl (o_call bd74 rfl (Little_c (v := crc 0 (mbs [n, 128, 32768, 32896, (n - 32896) / 256, 0])) (n := 8))) ?_
          rintro _ _ ⟨a52, c52, rfl, hc52, rfl⟩
          refine tl_c rfl (o_call bd73 rfl (Two_c (h1 := hp1.left) (h2 := rs_sl) (e1 := hml) (e2 := le_length 8 _) (hl := by omega))) ?_
          rintro _ _ ⟨a53, c53, rfl, hc53, rfl⟩
          refine tl_v rfl (o_assign (by conv => lhs; whnf)) ?_
          refine tl_v rfl (o_assign (by conv => lhs; whnf)) ?_
          refine tl_nil ?_
          refine q_then_n ?_
          refine tc_ret ?_
          exact ⟨.tuple #[.slice a53 64 c53, .int .i64 0], A * Sl 1 (.slice a53 64 c53) 64 (bys (sbB [n, 128, 32768, 32896, (n - 32896) / 256, 0])), res2 rfl rfl rfl, fun _ _ h => by rw [sbB_def]; exact Dr.sat (by repeat (first | with_reducible exact dr_refl | apply dr_keep | apply dr_drop)) _ _ h, a53, c53, rfl, hc53, rfl⟩

set_option maxRecDepth 20000 in
set_option maxHeartbeats 1000000 in
theorem LineR_no {A : SP} {i0 i1 i2 i3 i4 : Int} (hn : planT i0 ≠ ([i0, i1, i2, i3, i4], 0)) :
    Fn Try.prog 21 #[.agg (ints [i0, i1, i2, i3, i4]).toArray] (A) (fun r B => r = .tuple #[.slice none 0 0, .int .i64 100] ∧ A = B) := by
  refine fn_enterW (args := [.agg (ints [i0, i1, i2, i3, i4]).toArray]) Try.func21 rfl Try.ntmps21 (by simp) ?_
  refine tc_seq ?_
  refine tc_reg ?_
  refine tl_x rfl (o_box rfl rfl) ?_
  rintro _ _ ⟨b1, rfl, rfl⟩
  refine tl_v rfl (o_assign (by conv => lhs; whnf)) ?_
  refine tl_v rfl (o_assign (by conv => lhs; whnf)) ?_
  refine tl_nil ?_
  refine q_then_n ?_
  refine tc_seq ?_
  refine tc_reg ?_
  refine tl_v rfl (o_fieldAddr (o := 0) Try.underlying23 rfl rfl sz3 rfl) ?_
  refine tl_v rfl (by first | exact o_load p3 rfl (by repeat (first | with_reducible exact has_here | with_reducible exact has_pt | apply has_left)) rfl | exact o_loadC p3 rfl (by assumption)) ?_
  refine tl_c rfl (o_call bd19 rfl (PlanR_c)) ?_
  rintro _ _ ⟨rfl, rfl⟩
  refine tl_v rfl (o_move (by conv => lhs; whnf)) ?_
  refine tl_v rfl (o_extract rfl rfl) ?_
  refine tl_v rfl (o_extract rfl rfl) ?_
  refine tl_x rfl (o_alloc z23 rfl) ?_
  rintro _ _ ⟨b4, rfl, rfl⟩
  refine tl_u rfl (o_stUN (l' := ints (planT i0).1) rfl (by repeat (first | with_reducible exact upd_here | with_reducible exact upd_pt | apply upd_left)) sz23 rfl (by rw [ints_length, planT_len]) (ints_all _) (by simp) (splice_whole (by rw [ints_length, planT_len]; rfl))) ?_
  refine tl_v rfl (o_assign (by conv => lhs; whnf)) ?_
  refine tl_nil ?_
  refine q_then_n ?_
  refine tc_seq ?_
  refine tc_seq ?_
  refine tc_reg ?_
  refine tl_v rfl (o_move (by conv => lhs; whnf)) ?_
  refine tl_v rfl (o_nei rfl rfl) ?_
  refine tl_v rfl (o_move (by conv => lhs; whnf)) ?_
  refine tl_bool (d := 17) rfl (fun h => ?_) (fun h => ?_)
  · try simp only [decide_eq_true_eq, decide_eq_false_iff_not, Bool.not_eq_true', Bool.not_eq_false', Option.isNone_some, Option.isNone_none, Bool.not_true, Bool.not_false] at h
    refine tl_skip rfl ?_
    refine tl_skip rfl ?_
    refine tl_skip rfl ?_
    refine tl_v rfl (o_pick_t rfl (by conv => lhs; whnf)) ?_
    refine tl_nil ?_
    refine q_then_n ?_
    refine tc_cond_t rfl ?_
    refine tc_seq ?_
    refine tc_reg ?_
    refine tl_v rfl (o_assign (by conv => lhs; whnf)) ?_
    refine tl_v rfl (o_assign (by conv => lhs; whnf)) ?_
    refine tl_nil ?_
    refine q_then_n ?_
    refine tc_ret ?_
    refine q_then_r ?_
    exact ⟨.tuple #[.slice none 0 0, .int .i64 100], A, res2 rfl rfl rfl, Dr.sat (by repeat (first | with_reducible exact dr_refl | apply dr_keep | apply dr_drop)), rfl, rfl⟩
  · try simp only [decide_eq_true_eq, decide_eq_false_iff_not, Bool.not_eq_true', Bool.not_eq_false', Option.isNone_some, Option.isNone_none, Bool.not_true, Bool.not_false] at h
    refine tl_v rfl (o_loadN (vs := ints (planT i0).1) a23 sz23 rfl (by repeat (first | with_reducible exact has_here | with_reducible exact has_pt | apply has_left)) (by rw [ints_length, planT_len]; decide) (by rw [List.drop_zero]; exact List.take_of_length_le (by rw [ints_length, planT_len]; decide))) ?_
    refine tl_v rfl (o_loadN (vs := ints [i0, i1, i2, i3, i4]) a23 sz23 rfl (by repeat (first | with_reducible exact has_here | with_reducible exact has_pt | apply has_left)) (by show 5 ≤ 5; decide) rfl) ?_
    refine tl_v rfl (o_nest (k := 5) (l := (planT i0).1) (m := [i0, i1, i2, i3, i4]) Try.underlying23 (by kernel_rfl) (by kernel_rfl) (by kernel_rfl) rfl rfl (planT_len _) rfl) ?_
    refine tl_v rfl (o_pick_f rfl (by conv => lhs; whnf)) ?_
    refine tl_nil ?_
    refine q_then_n ?_
    refine tc_cond rfl (fun h => ?_) (fun h => ?_)
    · try simp only [decide_eq_true_eq, decide_eq_false_iff_not, Bool.not_eq_true', Bool.not_eq_false', Option.isNone_some, Option.isNone_none, Bool.not_true, Bool.not_false] at h
      refine tc_seq ?_
      refine tc_reg ?_
      refine tl_v rfl (o_assign (by conv => lhs; whnf)) ?_
      refine tl_v rfl (o_assign (by conv => lhs; whnf)) ?_
      refine tl_nil ?_
      refine q_then_n ?_
      refine tc_ret ?_
      refine q_then_r ?_
      exact ⟨.tuple #[.slice none 0 0, .int .i64 100], A, res2 rfl rfl rfl, Dr.sat (by repeat (first | with_reducible exact dr_refl | apply dr_keep | apply dr_drop)), rfl, rfl⟩
    · exfalso; rename_i h0; apply hn; simp at h; exact Prod.ext h (by simpa using h0)

end Go.Vl
