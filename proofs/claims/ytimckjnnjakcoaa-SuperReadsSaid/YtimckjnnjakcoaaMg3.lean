/- What the row rests on, part 3: a calculus of assertions, walks of functions over it, and plain laws. Conditions: none. -/
import Derived.Deep.QuietTactic
import Derived.BigQuiet
import Derived.WalkKit
import Derived.Test.YtimckjnnjakcoaaProg
import Derived.OrdersHeld
import Derived.Laws.BytesArg
import Derived.RangeFuncRecord
import Derived.TacticsIn
import Derived.Deep.Slices
import Derived.OpenShut
import Derived.ChangeArms
import Derived.SizedLaws
import Derived.ChangeSame
import Derived.Test.YtimckjnnjakcoaaRows
import Derived.Test.YtimckjnnjakcoaaMg2
set_option linter.unusedVariables false
set_option linter.unusedSimpArgs false
namespace Go.Vl
open Go Go.Proofs
theorem img_lt {s : DevS} : ∀ x ∈ imgS s, x < 256 := fun x hx => by
  unfold imgS img at hx
  obtain ⟨l, _, h⟩ := List.mem_flatMap.1 hx
  unfold lb at h
  obtain ⟨v, _, h⟩ := List.mem_flatMap.1 h
  exact le_bytes _ _ _ h
theorem imgS_len {s : DevS} (hw : WfD s) : (imgS s).length = s.ls.length * 64 := img_length hw.line
theorem img_sub {s : DevS} {p n : Nat} : ∀ x ∈ ((imgS s).drop p).take n, x < 256 := fun x hx => img_lt x (List.mem_of_mem_drop (List.mem_of_mem_take hx))
theorem nm_take0 (xs : List Nat) (n : Nat) : nm (((xs.take n).drop 0).take n) = nm (xs.take n) := by rw [List.drop_zero, List.take_take, Nat.min_self]
attribute [local irreducible] Sl pt ro Dev imgS
set_option maxRecDepth 20000 in
set_option maxHeartbeats 1000000 in
theorem FL64_ok {A R : SP} {C : SP → SP} {d : Nat} {s : DevS} (hc : Ct A (Dev d s) R C := by repeat (first | with_reducible exact ct_here | apply ct_left)) {p : Nat} (hoff : s.off = false) (hpm : p + 8 ≤ s.ls.length * 64) :
    Fn Try.prog 62 #[.agg [Value.int .i64 (p : Nat)].toArray, .pointer (some ⟨d, 0, none⟩)] (A) (fun r B => r = .tuple #[.int .u64 ((nm (((imgS s).drop p).take 8) : Nat) : Int), .int .i64 0] ∧ A = B) := by
  refine fn_enterW (args := [.agg [Value.int .i64 (p : Nat)].toArray, .pointer (some ⟨d, 0, none⟩)]) Try.func62 rfl Try.ntmps62 (by simp) ?_
  refine tc_have (fun _ _ h => ct_wf2 hc h) fun hw => ?_
  obtain ⟨rfl, hC⟩ := hc
  have htop := hw.top
  have hil : (imgS s).length = s.ls.length * 64 := imgS_len hw
  have hI : (((imgS s).drop p).take 8).length = 8 := by rw [List.length_take, List.length_drop]; omega
  have hIb := img_sub (s := s) (p := p) (n := 8)
  refine tc_seq ?_
  refine tc_reg ?_
  refine tl_x rfl (o_box rfl rfl) ?_
  rintro _ _ ⟨b2, rfl, rfl⟩
  refine tl_v rfl (o_assign (by conv => lhs; whnf)) ?_
  refine tl_v rfl (o_assign (by conv => lhs; whnf)) ?_
  refine tl_nil ?_
  refine q_then_n ?_
  refine tc_seq ?_
  refine tc_reg ?_
  refine tl_v rfl (o_assign (by conv => lhs; whnf)) ?_
  refine tl_nil ?_
  refine q_then_n ?_
  refine tc_seq ?_
  refine tc_regh mo dr_refl ?_
  show TH _ _ _ _ _ 12 #[false, false, false, false, false, false, false, false, false, false, false, false] _ _
  refine th_take (i := 0) (listed' := #[true, false, false, false, false, false, false, false, false, false, false, false]) rfl (by kernel_rfl) (by kernel_rfl) (by kernel_rfl) rfl rfl (o_move (by conv => lhs; whnf)) ?_
  refine th_take (i := 1) (listed' := #[true, true, false, false, false, false, false, false, false, false, false, false]) rfl (by kernel_rfl) (by kernel_rfl) (by kernel_rfl) rfl rfl (o_fieldAddr (o := 0) Try.underlying117 rfl rfl sz3 rfl) ?_
  refine th_take (i := 2) (listed' := #[true, true, true, false, false, false, false, false, false, false, false, false]) rfl (by kernel_rfl) (by kernel_rfl) (by kernel_rfl) rfl rfl (by first | exact o_load p3 rfl (by repeat (first | with_reducible exact has_here | with_reducible exact has_pt | apply has_left)) rfl | exact o_loadC p3 rfl (by assumption)) ?_
  refine th_take (i := 3) (listed' := #[true, true, true, true, false, false, false, false, false, false, false, false]) rfl (by kernel_rfl) (by kernel_rfl) (by kernel_rfl) rfl rfl (o_move (by conv => lhs; whnf)) ?_
  refine th_one (i := 4) (by kernel_rfl) ?_
  refine oh_c (i := 4) (listed' := #[true, true, true, true, true, false, false, false, false, false, false, false]) rfl rfl rfl (o_call bd99 rfl (Put64_c (xs := []) (v := 0))) ?_
  rintro _ _ ⟨a14, c14, rfl, hc14, rfl⟩
  refine ⟨by repeat (first | with_reducible exact dr_refl | apply dr_keep | apply dr_drop), ?_⟩
  refine th_take (i := 5) (listed' := #[true, true, true, true, true, true, false, false, false, false, false, false]) rfl (by kernel_rfl) (by kernel_rfl) (by kernel_rfl) rfl rfl (o_len Try.underlying28 rfl) ?_
  refine th_one (i := 6) (by kernel_rfl) ?_
  refine oh_c (i := 6) (listed' := #[true, true, true, true, true, true, true, false, false, false, false, false]) rfl rfl rfl (o_call bd27 rfl (Load_c (s := s) (p := p) (m := 8))) ?_
  rintro _ _ ⟨a16, c16, rfl, hc16, rfl⟩
  refine ⟨by repeat (first | with_reducible exact dr_refl | apply dr_keep | apply dr_drop), ?_⟩
  refine th_take (i := 7) (listed' := #[true, true, true, true, true, true, true, true, false, false, false, false]) rfl (by kernel_rfl) (by kernel_rfl) (by kernel_rfl) rfl rfl (o_move (by conv => lhs; whnf)) ?_
  refine th_take (i := 8) (listed' := #[true, true, true, true, true, true, true, true, true, false, false, false]) rfl (by kernel_rfl) (by kernel_rfl) (by kernel_rfl) rfl rfl (o_extract rfl rfl) ?_
  refine th_take (i := 9) (listed' := #[true, true, true, true, true, true, true, true, true, true, false, false]) rfl (by kernel_rfl) (by kernel_rfl) (by kernel_rfl) rfl rfl (o_extract rfl rfl) ?_
  refine th_take (i := 10) (listed' := #[true, true, true, true, true, true, true, true, true, true, true, false]) rfl (by kernel_rfl) (by kernel_rfl) (by kernel_rfl) rfl rfl (o_assign (by conv => lhs; whnf)) ?_
  refine th_take (i := 11) (listed' := #[true, true, true, true, true, true, true, true, true, true, true, true]) rfl (by kernel_rfl) (by kernel_rfl) (by kernel_rfl) rfl rfl (o_assign (by conv => lhs; whnf)) ?_
  refine th_done (by kernel_rfl) ?_
  refine q_then_n ?_
  refine tc_seq ?_
  refine tc_seq ?_
  refine tc_reg ?_
  refine tl_v rfl (o_move (by conv => lhs; whnf)) ?_
  refine tl_v rfl (o_nei rfl rfl) ?_
  refine tl_nil ?_
  refine q_then_n ?_
  refine tc_cond rfl (fun h => ?_) (fun h => ?_)
  · exfalso; simp at h
  · try simp only [decide_eq_true_eq, decide_eq_false_iff_not, Bool.not_eq_true', Bool.not_eq_false', Option.isNone_some, Option.isNone_none, Bool.not_true, Bool.not_false] at h
    refine tc_skip ?_
    refine q_then_n ?_
    refine tc_seq ?_
    refine tc_reg ?_
    refine tl_v rfl (o_move (by conv => lhs; whnf)) ?_
    refine tl_c rfl (o_call bd98 rfl (Take64_c (xs := ((imgS s).drop p).take 8) (p := 0) (hm := hI))) ?_
    rintro _ _ ⟨rfl, rfl⟩
    refine tl_v rfl (o_extract rfl rfl) ?_
    refine tl_v rfl (o_extract rfl rfl) ?_
    refine tl_v rfl (o_assign (by conv => lhs; whnf)) ?_
    refine tl_v rfl (o_assign (by conv => lhs; whnf)) ?_
    refine tl_nil ?_
    refine q_then_n ?_
    refine tc_ret ?_
    exact ⟨.tuple #[.int .u64 ((nm (((imgS s).drop p).take 8) : Nat) : Int), .int .i64 0], R * Dev d s, res2 rfl (congrArg (fun z : Nat => Value.int .u64 (z : Int)) (nm_take0 _ _)) rfl, Dr.sat (by repeat (first | with_reducible exact dr_refl | apply dr_keep | apply dr_drop)), rfl, rfl⟩
set_option maxRecDepth 20000 in
set_option maxHeartbeats 1000000 in
theorem FL64_no {A R : SP} {C : SP → SP} {d : Nat} {s : DevS} (hc : Ct A (Dev d s) R C := by repeat (first | with_reducible exact ct_here | apply ct_left)) {p : Int} (hp : -9223372036854775808 ≤ p ∧ p ≤ 9223372036854775807 := by omega) (hno : rdy s.ls.length s.off p 8 ≠ 0) :
    Fn Try.prog 62 #[.agg [Value.int .i64 p].toArray, .pointer (some ⟨d, 0, none⟩)] (A) (fun r B => r = .tuple #[.int .u64 0, .int .i64 (rdy s.ls.length s.off p 8)] ∧ A = B) := by
  refine fn_enterW (args := [.agg [Value.int .i64 p].toArray, .pointer (some ⟨d, 0, none⟩)]) Try.func62 rfl Try.ntmps62 (by simp) ?_
  obtain ⟨rfl, hC⟩ := hc
  refine tc_seq ?_
  refine tc_reg ?_
  refine tl_x rfl (o_box rfl rfl) ?_
  rintro _ _ ⟨b2, rfl, rfl⟩
  refine tl_v rfl (o_assign (by conv => lhs; whnf)) ?_
  refine tl_v rfl (o_assign (by conv => lhs; whnf)) ?_
  refine tl_nil ?_
  refine q_then_n ?_
  refine tc_seq ?_
  refine tc_reg ?_
  refine tl_v rfl (o_assign (by conv => lhs; whnf)) ?_
  refine tl_nil ?_
  refine q_then_n ?_
  refine tc_seq ?_
  refine tc_regh mo dr_refl ?_
  show TH _ _ _ _ _ 12 #[false, false, false, false, false, false, false, false, false, false, false, false] _ _
  refine th_take (i := 0) (listed' := #[true, false, false, false, false, false, false, false, false, false, false, false]) rfl (by kernel_rfl) (by kernel_rfl) (by kernel_rfl) rfl rfl (o_move (by conv => lhs; whnf)) ?_
  refine th_take (i := 1) (listed' := #[true, true, false, false, false, false, false, false, false, false, false, false]) rfl (by kernel_rfl) (by kernel_rfl) (by kernel_rfl) rfl rfl (o_fieldAddr (o := 0) Try.underlying117 rfl rfl sz3 rfl) ?_
  refine th_take (i := 2) (listed' := #[true, true, true, false, false, false, false, false, false, false, false, false]) rfl (by kernel_rfl) (by kernel_rfl) (by kernel_rfl) rfl rfl (by first | exact o_load p3 rfl (by repeat (first | with_reducible exact has_here | with_reducible exact has_pt | apply has_left)) rfl | exact o_loadC p3 rfl (by assumption)) ?_
  refine th_take (i := 3) (listed' := #[true, true, true, true, false, false, false, false, false, false, false, false]) rfl (by kernel_rfl) (by kernel_rfl) (by kernel_rfl) rfl rfl (o_move (by conv => lhs; whnf)) ?_
  refine th_one (i := 4) (by kernel_rfl) ?_
  refine oh_c (i := 4) (listed' := #[true, true, true, true, true, false, false, false, false, false, false, false]) rfl rfl rfl (o_call bd99 rfl (Put64_c (xs := []) (v := 0))) ?_
  rintro _ _ ⟨a14, c14, rfl, hc14, rfl⟩
  refine ⟨by repeat (first | with_reducible exact dr_refl | apply dr_keep | apply dr_drop), ?_⟩
  refine th_take (i := 5) (listed' := #[true, true, true, true, true, true, false, false, false, false, false, false]) rfl (by kernel_rfl) (by kernel_rfl) (by kernel_rfl) rfl rfl (o_len Try.underlying28 rfl) ?_
  refine th_one (i := 6) (by kernel_rfl) ?_
  refine oh_c (i := 6) (listed' := #[true, true, true, true, true, true, true, false, false, false, false, false]) rfl rfl rfl (o_call bd27 rfl (LoadNo_c (s := s) (p := p) (m := 8))) ?_
  rintro _ _ ⟨rfl, rfl⟩
  refine ⟨by repeat (first | with_reducible exact dr_refl | apply dr_keep | apply dr_drop), ?_⟩
  refine th_take (i := 7) (listed' := #[true, true, true, true, true, true, true, true, false, false, false, false]) rfl (by kernel_rfl) (by kernel_rfl) (by kernel_rfl) rfl rfl (o_move (by conv => lhs; whnf)) ?_
  refine th_take (i := 8) (listed' := #[true, true, true, true, true, true, true, true, true, false, false, false]) rfl (by kernel_rfl) (by kernel_rfl) (by kernel_rfl) rfl rfl (o_extract rfl rfl) ?_
  refine th_take (i := 9) (listed' := #[true, true, true, true, true, true, true, true, true, true, false, false]) rfl (by kernel_rfl) (by kernel_rfl) (by kernel_rfl) rfl rfl (o_extract rfl rfl) ?_
  refine th_take (i := 10) (listed' := #[true, true, true, true, true, true, true, true, true, true, true, false]) rfl (by kernel_rfl) (by kernel_rfl) (by kernel_rfl) rfl rfl (o_assign (by conv => lhs; whnf)) ?_
  refine th_take (i := 11) (listed' := #[true, true, true, true, true, true, true, true, true, true, true, true]) rfl (by kernel_rfl) (by kernel_rfl) (by kernel_rfl) rfl rfl (o_assign (by conv => lhs; whnf)) ?_
  refine th_done (by kernel_rfl) ?_
  refine q_then_n ?_
  refine tc_seq ?_
  refine tc_seq ?_
  refine tc_reg ?_
  refine tl_v rfl (o_move (by conv => lhs; whnf)) ?_
  refine tl_v rfl (o_nei rfl rfl) ?_
  refine tl_nil ?_
  refine q_then_n ?_
  refine tc_cond rfl (fun h => ?_) (fun h => ?_)
  · try simp only [decide_eq_true_eq, decide_eq_false_iff_not, Bool.not_eq_true', Bool.not_eq_false', Option.isNone_some, Option.isNone_none, Bool.not_true, Bool.not_false] at h
    refine tc_seq ?_
    refine tc_reg ?_
    refine tl_v rfl (o_move (by conv => lhs; whnf)) ?_
    refine tl_v rfl (o_assign (by conv => lhs; whnf)) ?_
    refine tl_v rfl (o_assign (by conv => lhs; whnf)) ?_
    refine tl_nil ?_
    refine q_then_n ?_
    refine tc_ret ?_
    refine q_then_r ?_
    exact ⟨.tuple #[.int .u64 0, .int .i64 (rdy s.ls.length s.off p 8)], R * Dev d s, res2 rfl rfl rfl, Dr.sat (by repeat (first | with_reducible exact dr_refl | apply dr_keep | apply dr_drop)), rfl, rfl⟩
  · exfalso; exact hno (by simpa using h)
theorem FL64_c {A R : SP} {C : SP → SP} {d : Nat} {s : DevS} (hc : Ct A (Dev d s) R C := by repeat (first | with_reducible exact ct_here | apply ct_left)) {p : Int} (hp : -9223372036854775808 ≤ p ∧ p ≤ 9223372036854775807 := by omega) : Fn Try.prog 62 #[.agg [Value.int .i64 p].toArray, .pointer (some ⟨d, 0, none⟩)] A (fun r B => r = .tuple #[.int .u64 (((loadP p 8 s).1 : Nat) : Int), .int .i64 (loadP p 8 s).2] ∧ A = B) := by
  by_cases h : rdy s.ls.length s.off p 8 = 0
  · have h0 := rdy0 h
    obtain ⟨q, rfl⟩ := Int.eq_ofNat_of_zero_le h0.2.1
    have e : loadP (q : Int) 8 s = (nm (((imgS s).drop q).take 8), 0) := by unfold loadP; rw [if_neg (by simpa using h)]; rfl
    rw [e]; exact FL64_ok hc h0.1 (by omega)
  · have e : loadP p 8 s = (0, rdy s.ls.length s.off p 8) := by unfold loadP; rw [if_pos (by simpa using h)]; rfl
    rw [e]; exact FL64_no hc hp (by simpa using h)
set_option maxRecDepth 20000 in
set_option maxHeartbeats 1000000 in
theorem Word_c {A R : SP} {C : SP → SP} {d : Nat} {s : DevS} (hc : Ct A (Dev d s) R C := by repeat (first | with_reducible exact ct_here | apply ct_left)) {p : Int} (hp : -9223372036854775808 ≤ p ∧ p ≤ 9223372036854775807 := by omega) :
    Fn Try.prog 57 #[.pointer (some ⟨d, 0, none⟩), .int .i64 p] (A) (fun r B => r = .tuple #[.int .u64 (((wordP p s).1 : Nat) : Int), .int .i64 (wordP p s).2] ∧ A = B) := by
  refine fn_enterW (args := [.pointer (some ⟨d, 0, none⟩), .int .i64 p]) Try.func57 rfl Try.ntmps57 (by simp) ?_
  refine tc_seq ?_
  refine tc_reg ?_
  refine tl_v rfl (o_assign (by conv => lhs; whnf)) ?_
  refine tl_v rfl (o_assign (by conv => lhs; whnf)) ?_
  refine tl_nil ?_
  refine q_then_n ?_
  refine tc_seq ?_
  refine tc_seq ?_
  refine tc_reg ?_
  refine tl_v rfl (o_move (by conv => lhs; whnf)) ?_
  refine tl_c rfl (o_call bd119 rfl (alive_c hc)) ?_
  rintro _ _ ⟨rfl, rfl⟩
  refine tl_v rfl (o_assign (by conv => lhs; whnf)) ?_
  refine tl_nil ?_
  refine q_then_n ?_
  refine tc_seq ?_
  refine tc_reg ?_
  refine tl_v rfl (o_move (by conv => lhs; whnf)) ?_
  refine tl_v rfl (o_nei rfl rfl) ?_
  refine tl_nil ?_
  refine q_then_n ?_
  refine tc_cond rfl (fun h => ?_) (fun h => ?_)
  · try simp only [decide_eq_true_eq, decide_eq_false_iff_not, Bool.not_eq_true', Bool.not_eq_false', Option.isNone_some, Option.isNone_none, Bool.not_true, Bool.not_false] at h
    refine tc_seq ?_
    refine tc_reg ?_
    refine tl_v rfl (o_move (by conv => lhs; whnf)) ?_
    refine tl_v rfl (o_assign (by conv => lhs; whnf)) ?_
    refine tl_v rfl (o_assign (by conv => lhs; whnf)) ?_
    refine tl_nil ?_
    refine q_then_n ?_
    refine tc_ret ?_
    refine q_then_r ?_
    have ho := stE_off h
    have e : wordP p s = (0, 5) := by unfold wordP; rw [if_pos ho]
    have e2 : stE s = 5 := by unfold stE; rw [if_pos ho]
    rw [e]
    exact ⟨.tuple #[.int .u64 0, .int .i64 5], A, res2 rfl rfl (congrArg (Value.int .i64) e2), fun _ _ h => h, rfl, rfl⟩
  · have ho : s.off = false := stE_on (by simpa using h)
    refine tc_skip ?_
    refine q_then_n ?_
    refine tc_seq ?_
    refine tc_seq ?_
    refine tc_reg ?_
    refine tl_v rfl (o_move (by conv => lhs; whnf)) ?_
    refine tl_v rfl (o_rem rfl rfl (by decide)) ?_
    refine tl_v rfl (o_nei rfl rfl) ?_
    refine tl_nil ?_
    refine q_then_n ?_
    refine tc_cond rfl (fun h => ?_) (fun h => ?_)
    · try simp only [decide_eq_true_eq, decide_eq_false_iff_not, Bool.not_eq_true', Bool.not_eq_false', Option.isNone_some, Option.isNone_none, Bool.not_true, Bool.not_false] at h
      refine tc_seq ?_
      refine tc_reg ?_
      refine tl_v rfl (o_assign (by conv => lhs; whnf)) ?_
      refine tl_v rfl (o_assign (by conv => lhs; whnf)) ?_
      refine tl_nil ?_
      refine q_then_n ?_
      refine tc_ret ?_
      refine q_then_r ?_
      have e : wordP p s = (0, 6) := by unfold wordP; rw [if_neg (by rw [ho]; decide), if_pos (fun e => h (by rw [Int.tmod_eq_zero_of_dvd (Int.dvd_of_emod_eq_zero e)]))]
      rw [e]
      exact ⟨.tuple #[.int .u64 0, .int .i64 6], A, res2 rfl rfl rfl, fun _ _ h => h, rfl, rfl⟩
    · try simp only [decide_eq_true_eq, decide_eq_false_iff_not, Bool.not_eq_true', Bool.not_eq_false', Option.isNone_some, Option.isNone_none, Bool.not_true, Bool.not_false] at h
      refine tc_skip ?_
      refine q_then_n ?_
      refine tc_seq ?_
      refine tc_reg ?_
      refine tl_v rfl (o_move (by conv => lhs; whnf)) ?_
      refine tl_v rfl (o_bS (l := [Value.int .i64 p]) (pv_cons (by conv => lhs; whnf) pv_nil) Try.underlying117 z117 (pl117 Try.underlying117) rfl) ?_
      refine tl_v rfl (o_move (by conv => lhs; whnf)) ?_
      refine tl_c rfl (o_call bd62 rfl (FL64_c hc (p := p))) ?_
      rintro _ _ ⟨rfl, rfl⟩
      refine tl_v rfl (o_extract rfl rfl) ?_
      refine tl_v rfl (o_extract rfl rfl) ?_
      refine tl_v rfl (o_assign (by conv => lhs; whnf)) ?_
      refine tl_v rfl (o_assign (by conv => lhs; whnf)) ?_
      refine tl_nil ?_
      refine q_then_n ?_
      refine tc_ret ?_
      have e : wordP p s = loadP p 8 s := by unfold wordP; rw [if_neg (by rw [ho]; decide), if_neg (fun e => e (Int.emod_eq_zero_of_dvd (Int.dvd_of_tmod_eq_zero (by simpa using h))))]
      rw [e]
      exact ⟨_, A, res2 rfl rfl rfl, Dr.sat (by repeat (first | with_reducible exact dr_refl | apply dr_keep | apply dr_drop)), rfl, rfl⟩
end Go.Vl

set_option linter.unusedVariables false
set_option linter.unusedSimpArgs false
namespace Go.Vl
open Go Go.Proofs
def wk1 : DevS := (bytesP 60 [1, 1, 1, 1, 1, 1, 1, 1] (newS 2)).2
def wk2 : DevS := (pubP 8 258 wk1).2
def wk3 : DevS := (crS [] wk2).2
def wk4 : DevS := { wk3 with off := false }
attribute [local irreducible] Sl pt ro Dev imgS
def nk1 : DevS := (crS [] (newS 1)).2
end Go.Vl

set_option linter.unusedVariables false
set_option linter.unusedSimpArgs false
namespace Go.Vl
open Go Go.Proofs
/-- The mark of a place. -/
def mk (i k : Nat) : Nat := (i * 31 + k * 7 + 1) % 256
/-- The marks of a list. -/
def mks (i n : Nat) : List Nat := (List.range n).map (mk i)
def mkL (j : Nat) (l : List Nat) : List Nat := mks j l.length
/-- Lists that bear their marks; the first of them is number j. -/
def PM : Nat → List Value → List Nat → SP
  | j, v :: vs, n :: ns => PM (j + 1) vs ns * Sl 1 v n (bys (mks j n))
  | _, [], [] => emp
  | _, _, _ => pure_ False
/-- Such lists, and what they were grown to. -/
def GP : Nat → List Value → List Value → List Nat → SP
  | j, v :: vs, g :: gs, n :: ns => GP (j + 1) vs gs ns * Gr v n (bys (mks j n)) g (n + 70) (bys (mks j (n + 70)))
  | _, [], [], [] => emp
  | _, _, _, _ => pure_ False
attribute [local irreducible] Sl SlR pt ro Parts Gr
end Go.Vl

set_option linter.unusedVariables false
set_option linter.unusedSimpArgs false
namespace Go.Vl
open Go Go.Proofs
theorem planT_five (n : Int) : ∃ r0 r1 r2 r3 r4 e : Int, planT n = ([r0, r1, r2, r3, r4], e) ∧ 0 ≤ r4 ∧ r4 ≤ 16384 := by
  by_cases h : 36992 ≤ n ∧ n ≤ 4194304 ∧ n % 64 = 0
  · exact ⟨_, _, _, _, _, _, planT_t h, by omega, by omega⟩
  · exact ⟨_, _, _, _, _, _, planT_f h, by omega, by omega⟩
theorem Plan_q {A : SP} {n e r0 r1 r2 r3 r4 : Int} (hp : planT n = ([r0, r1, r2, r3, r4], e)) : Fn Try.prog 18 #[.int .i64 n] A (fun r B => r = .tuple #[.agg (ints [r0, r1, r2, r3, r4]).toArray, .int .i64 e] ∧ A = B) := by
  have := Plan_c (A := A) (n := n); rw [hp] at this; exact this
theorem PlanR_q {A : SP} {n e r0 r1 r2 r3 r4 : Int} (hp : planT n = ([r0, r1, r2, r3, r4], e)) : Fn Try.prog 19 #[.int .i64 n] A (fun r B => r = .tuple #[.agg (ints [r0, r1, r2, r3, r4]).toArray, .int .i64 e] ∧ A = B) := by
  have := PlanR_c (A := A) (n := n); rw [hp] at this; exact this
attribute [local irreducible] crk crL crc Sl pt ro mbs sbB planT lineT
end Go.Vl

set_option linter.unusedVariables false
set_option linter.unusedSimpArgs false
namespace Go.Vl
open Go Go.Proofs
attribute [local irreducible] crk crL crc Sl pt ro mbs sbB planT Dev imgS
theorem Read_off {A R : SP} {C : SP → SP} {d : Nat} {s : DevS} (hc : Ct A (Dev d s) R C := by repeat (first | with_reducible exact ct_here | apply ct_left)) (hoff : s.off = true) :
    Fn Try.prog 48 #[.pointer (some ⟨d, 0, none⟩)] (A) (fun r B => r = .tuple #[.agg (ints [0, 0, 0, 0, 0]).toArray, .int .i64 5] ∧ A = B) := by
  refine fn_enterW (args := [.pointer (some ⟨d, 0, none⟩)]) Try.func48 rfl Try.ntmps48 (by simp) ?_
  have hst : stE s = 5 := if_pos hoff
  obtain ⟨rfl, hC⟩ := hc
  refine tc_seq ?_
  refine tc_reg ?_
  refine tl_x rfl (o_alloc z23 rfl) ?_
  rintro _ _ ⟨b2, rfl, rfl⟩
  refine tl_v rfl (o_assign (by conv => lhs; whnf)) ?_
  refine tl_nil ?_
  refine q_then_n ?_
  refine tc_seq ?_
  refine tc_seq ?_
  refine tc_reg ?_
  refine tl_v rfl (o_move (by conv => lhs; whnf)) ?_
  refine tl_c rfl (o_call bd102 rfl (state_c (s := s))) ?_
  rintro _ _ ⟨rfl, rfl⟩
  refine tl_env (d := 9) (v := .int .i64 5) (congrArg (Value.int .i64) hst) ?_
  refine tl_v rfl (o_assign (by conv => lhs; whnf)) ?_
  refine tl_nil ?_
  refine q_then_n ?_
  refine tc_seq ?_
  refine tc_reg ?_
  refine tl_v rfl (o_move (by conv => lhs; whnf)) ?_
  refine tl_v rfl (o_nei rfl rfl) ?_
  refine tl_nil ?_
  refine q_then_n ?_
  refine tc_cond rfl (fun h => ?_) (fun h => ?_)
  · try simp only [decide_eq_true_eq, decide_eq_false_iff_not, Bool.not_eq_true', Bool.not_eq_false', Option.isNone_some, Option.isNone_none, Bool.not_true, Bool.not_false] at h
    refine tc_seq ?_
    refine tc_reg ?_
    refine tl_v rfl (o_bS (l := ints [0, 0, 0, 0, 0]) pv_nil Try.underlying23 z23 (pl23 Try.underlying23) rfl) ?_
    refine tl_v rfl (o_move (by conv => lhs; whnf)) ?_
    refine tl_u rfl (o_stUN (l' := ints [0, 0, 0, 0, 0]) rfl (by repeat (first | with_reducible exact upd_here | with_reducible exact upd_pt | apply upd_left)) sz23 rfl rfl rfl (by simp) rfl) ?_
    refine tl_v rfl (o_assign (by conv => lhs; whnf)) ?_
    refine tl_nil ?_
    refine q_then_n ?_
    refine tc_ret ?_
    refine q_then_r ?_
    exact ⟨.tuple #[.agg (ints [0, 0, 0, 0, 0]).toArray, .int .i64 5], R * Dev d s, resA2 rfl (rv_cell a23 sz23 rfl (by repeat (first | with_reducible exact has_here | with_reducible exact has_pt | apply has_left)) (by show 5 ≤ 5; decide) rfl) (rv_tmp rfl), Dr.sat (by repeat (first | with_reducible exact dr_refl | apply dr_keep | apply dr_drop)), rfl, rfl⟩
  · exfalso; simp at h
theorem Read_no {A R : SP} {C : SP → SP} {d : Nat} {s : DevS} (hc : Ct A (Dev d s) R C := by repeat (first | with_reducible exact ct_here | apply ct_left)) {n : Nat} (hoff : s.off = false) (hlen : s.ls.length * 64 = n) (hn : ¬ (36992 ≤ (n : Int) ∧ (n : Int) ≤ 4194304 ∧ (n : Int) % 64 = 0)) :
    Fn Try.prog 48 #[.pointer (some ⟨d, 0, none⟩)] (A) (fun r B => r = .tuple #[.agg (ints [0, 0, 0, 0, 0]).toArray, .int .i64 100] ∧ A = B) := by
  refine fn_enterW (args := [.pointer (some ⟨d, 0, none⟩)]) Try.func48 rfl Try.ntmps48 (by simp) ?_
  have hst : stE s = 0 := by unfold stE; rw [hoff]; rfl
  refine tc_have (fun _ _ h => ct_wf2 hc h) fun hw => ?_
  have htop := hw.top
  obtain ⟨rfl, hC⟩ := hc
  refine tc_seq ?_
  refine tc_reg ?_
  refine tl_x rfl (o_alloc z23 rfl) ?_
  rintro _ _ ⟨b2, rfl, rfl⟩
  refine tl_v rfl (o_assign (by conv => lhs; whnf)) ?_
  refine tl_nil ?_
  refine q_then_n ?_
  refine tc_seq ?_
  refine tc_seq ?_
  refine tc_reg ?_
  refine tl_v rfl (o_move (by conv => lhs; whnf)) ?_
  refine tl_c rfl (o_call bd102 rfl (state_c (s := s))) ?_
  rintro _ _ ⟨rfl, rfl⟩
  refine tl_env (d := 9) (v := .int .i64 0) (congrArg (Value.int .i64) hst) ?_
  refine tl_v rfl (o_assign (by conv => lhs; whnf)) ?_
  refine tl_nil ?_
  refine q_then_n ?_
  refine tc_seq ?_
  refine tc_reg ?_
  refine tl_v rfl (o_move (by conv => lhs; whnf)) ?_
  refine tl_v rfl (o_nei rfl rfl) ?_
  refine tl_nil ?_
  refine q_then_n ?_
  refine tc_cond rfl (fun h => ?_) (fun h => ?_)
  · exfalso; simp at h
  · try simp only [decide_eq_true_eq, decide_eq_false_iff_not, Bool.not_eq_true', Bool.not_eq_false', Option.isNone_some, Option.isNone_none, Bool.not_true, Bool.not_false] at h
    refine tc_skip ?_
    refine q_then_n ?_
    refine tc_seq ?_
    refine tc_reg ?_
    refine tl_v rfl (o_move (by conv => lhs; whnf)) ?_
    refine tl_c rfl (o_call bd94 rfl (Size_c (s := s))) ?_
    rintro _ _ ⟨rfl, rfl⟩
    refine tl_env (d := 16) (v := .int .i64 (n : Int)) (congrArg (Value.int .i64) (by omega)) ?_
    refine tl_c rfl (o_call bd18 rfl (Plan_q (planT_f hn))) ?_
    rintro _ _ ⟨rfl, rfl⟩
    refine tl_v rfl (o_move (by conv => lhs; whnf)) ?_
    refine tl_v rfl (o_extract rfl rfl) ?_
    refine tl_v rfl (o_extract rfl rfl) ?_
    refine tl_x rfl (o_alloc z23 rfl) ?_
    rintro _ _ ⟨b5, rfl, rfl⟩
    refine tl_u rfl (o_stUN (l' := ints [0, 0, 0, 0, 0]) rfl (by repeat (first | with_reducible exact upd_here | with_reducible exact upd_pt | apply upd_left)) sz23 rfl rfl rfl (by simp) rfl) ?_
    refine tl_v rfl (o_assign (by conv => lhs; whnf)) ?_
    refine tl_nil ?_
    refine q_then_n ?_
    refine tc_seq ?_
    refine tc_seq ?_
    refine tc_reg ?_
    refine tl_v rfl (o_move (by conv => lhs; whnf)) ?_
    refine tl_v rfl (o_nei rfl rfl) ?_
    refine tl_nil ?_
    refine q_then_n ?_
    refine tc_cond rfl (fun h => ?_) (fun h => ?_)
    · try simp only [decide_eq_true_eq, decide_eq_false_iff_not, Bool.not_eq_true', Bool.not_eq_false', Option.isNone_some, Option.isNone_none, Bool.not_true, Bool.not_false] at h
      refine tc_seq ?_
      refine tc_reg ?_
      refine tl_v rfl (o_bS (l := ints [0, 0, 0, 0, 0]) pv_nil Try.underlying23 z23 (pl23 Try.underlying23) rfl) ?_
      refine tl_u rfl (o_stUN (l' := ints [0, 0, 0, 0, 0]) rfl (by repeat (first | with_reducible exact upd_here | with_reducible exact upd_pt | apply upd_left)) sz23 rfl rfl rfl (by simp) rfl) ?_
      refine tl_v rfl (o_assign (by conv => lhs; whnf)) ?_
      refine tl_nil ?_
      refine q_then_n ?_
      refine tc_ret ?_
      refine q_then_r ?_
      exact ⟨.tuple #[.agg (ints [0, 0, 0, 0, 0]).toArray, .int .i64 100], R * Dev d s, resA2 rfl (rv_cell a23 sz23 rfl (by repeat (first | with_reducible exact has_here | with_reducible exact has_pt | apply has_left)) (by show 5 ≤ 5; decide) rfl) (rv_tmp rfl), Dr.sat (by repeat (first | with_reducible exact dr_refl | apply dr_keep | apply dr_drop)), rfl, rfl⟩
    · exfalso; simp at h
/-- What Read and Root answer. -/
def rdA (s : DevS) : List Int × Int := if s.off = true then ([0, 0, 0, 0, 0], 5) else if 578 ≤ s.ls.length then rdT (s.ls.length * 64) (imgS s) else ([0, 0, 0, 0, 0], 100)
def rootA (s : DevS) : Nat × Int := if (rdA s).2 ≠ 0 then (0, (rdA s).2) else wordP 64 s
theorem rdT_len (n : Nat) (I : List Nat) : (rdT n I).1.length = 5 := by unfold rdT; split <;> rfl
theorem rdA_len (s : DevS) : (rdA s).1.length = 5 := by
  unfold rdA; split
  · rfl
  · split
    · exact rdT_len _ _
    · rfl
theorem Read_c {A R : SP} {C : SP → SP} {d : Nat} {s : DevS} (hc : Ct A (Dev d s) R C) : Fn Try.prog 48 #[.pointer (some ⟨d, 0, none⟩)] A (fun r B => r = .tuple #[.agg (ints (rdA s).1).toArray, .int .i64 (rdA s).2] ∧ A = B) := by
  intro g w hs
  have hw := ct_wf2 hc hs
  have htop := hw.top
  unfold rdA
  by_cases h1 : s.off = true
  · rw [if_pos h1]; exact Read_off hc h1 g w hs
  · rw [if_neg h1]
    by_cases h2 : 578 ≤ s.ls.length
    · rw [if_pos h2]; exact Read_ok hc (by simpa using h1) rfl (by omega) (by rw [imgS_len hw]) g w hs
    · rw [if_neg h2]; exact Read_no hc (by simpa using h1) rfl (by omega) g w hs
theorem five_i {l : List Int} (h : l.length = 5) : ∃ a b c d e, l = [a, b, c, d, e] := by
  match l, h with
  | [a, b, c, d, e], _ => exact ⟨a, b, c, d, e, rfl⟩
theorem Read_5 {A R : SP} {C : SP → SP} {d : Nat} {s : DevS} {l : List Int} {e : Int} (hc : Ct A (Dev d s) R C) (hr : rdA s = (l, e)) : Fn Try.prog 48 #[.pointer (some ⟨d, 0, none⟩)] A (fun r B => r = .tuple #[.agg (ints l).toArray, .int .i64 e] ∧ A = B) := by
  have := Read_c hc; rw [hr] at this; exact this
theorem Root_c {A R : SP} {C : SP → SP} {d : Nat} {s : DevS} (hc : Ct A (Dev d s) R C := by repeat (first | with_reducible exact ct_here | apply ct_left)) :
    Fn Try.prog 67 #[.pointer (some ⟨d, 0, none⟩)] (A) (fun r B => r = .tuple #[.int .u64 (((rootA s).1 : Nat) : Int), .int .i64 (rootA s).2] ∧ A = B) := by
  refine fn_enterW (args := [.pointer (some ⟨d, 0, none⟩)]) Try.func67 rfl Try.ntmps67 (by simp) ?_
  obtain ⟨q0, q1, q2, q3, q4, hq⟩ := five_i (rdA_len s)
  obtain ⟨e0, he0⟩ : ∃ e0, e0 = (rdA s).2 := ⟨_, rfl⟩
  have hrd : rdA s = ([q0, q1, q2, q3, q4], e0) := by rw [← hq, he0]
  obtain ⟨rfl, hC⟩ := hc
  refine tc_seq ?_
  refine tc_reg ?_
  refine tl_v rfl (o_assign (by conv => lhs; whnf)) ?_
  refine tl_v rfl (o_assign (by conv => lhs; whnf)) ?_
  refine tl_nil ?_
  refine q_then_n ?_
  refine tc_seq ?_
  refine tc_seq ?_
  refine tc_reg ?_
  refine tl_v rfl (o_move (by conv => lhs; whnf)) ?_
  refine tl_c rfl (o_call bd48 rfl (Read_5 (s := s) (by repeat (first | with_reducible exact ct_here | apply ct_left)) hrd)) ?_
  rintro _ _ ⟨rfl, rfl⟩
  refine tl_v rfl (o_move (by conv => lhs; whnf)) ?_
  refine tl_v rfl (o_extract rfl rfl) ?_
  refine tl_v rfl (o_extract rfl rfl) ?_
  refine tl_x rfl (o_alloc z23 rfl) ?_
  rintro _ _ ⟨b4, rfl, rfl⟩
  refine tl_u rfl (o_stUN (l' := ints [q0, q1, q2, q3, q4]) rfl (by repeat (first | with_reducible exact upd_here | with_reducible exact upd_pt | apply upd_left)) sz23 rfl rfl rfl (by simp) rfl) ?_
  refine tl_v rfl (o_assign (by conv => lhs; whnf)) ?_
  refine tl_nil ?_
  refine q_then_n ?_
  refine tc_seq ?_
  refine tc_reg ?_
  refine tl_v rfl (o_move (by conv => lhs; whnf)) ?_
  refine tl_v rfl (o_nei rfl rfl) ?_
  refine tl_nil ?_
  refine q_then_n ?_
  refine tc_cond rfl (fun h => ?_) (fun h => ?_)
  · try simp only [decide_eq_true_eq, decide_eq_false_iff_not, Bool.not_eq_true', Bool.not_eq_false', Option.isNone_some, Option.isNone_none, Bool.not_true, Bool.not_false] at h
    refine tc_seq ?_
    refine tc_reg ?_
    refine tl_v rfl (o_move (by conv => lhs; whnf)) ?_
    refine tl_v rfl (o_assign (by conv => lhs; whnf)) ?_
    refine tl_v rfl (o_assign (by conv => lhs; whnf)) ?_
    refine tl_nil ?_
    refine q_then_n ?_
    refine tc_ret ?_
    refine q_then_r ?_
    first
    | (have hp : rootA s = (0, e0) := by unfold rootA; rw [← he0, if_pos (by simpa using h)]
       rw [hp]; exact ⟨.tuple #[.int .u64 0, .int .i64 e0], R * Dev d s, res2 rfl rfl rfl, Dr.sat (by repeat (first | with_reducible exact dr_refl | apply dr_keep | apply dr_drop)), rfl, rfl⟩)
    | (have hp : rootA s = wordP 64 s := by unfold rootA; rw [← he0, if_neg (by simpa using h)]
       rw [hp]; exact ⟨.tuple #[.int .u64 (((wordP 64 s).1 : Nat) : Int), .int .i64 (wordP 64 s).2], R * Dev d s, res2 rfl rfl rfl, Dr.sat (by repeat (first | with_reducible exact dr_refl | apply dr_keep | apply dr_drop)), rfl, rfl⟩)
  · try simp only [decide_eq_true_eq, decide_eq_false_iff_not, Bool.not_eq_true', Bool.not_eq_false', Option.isNone_some, Option.isNone_none, Bool.not_true, Bool.not_false] at h
    refine tc_skip ?_
    refine q_then_n ?_
    refine tc_seq ?_
    refine tc_reg ?_
    refine tl_v rfl (o_move (by conv => lhs; whnf)) ?_
    refine tl_c rfl (o_call bd57 rfl (Word_c (s := s) (p := 64))) ?_
    rintro _ _ ⟨rfl, rfl⟩
    refine tl_v rfl (o_extract rfl rfl) ?_
    refine tl_v rfl (o_extract rfl rfl) ?_
    refine tl_v rfl (o_assign (by conv => lhs; whnf)) ?_
    refine tl_v rfl (o_assign (by conv => lhs; whnf)) ?_
    refine tl_nil ?_
    refine q_then_n ?_
    refine tc_ret ?_
    first
    | (have hp : rootA s = (0, e0) := by unfold rootA; rw [← he0, if_pos (by simpa using h)]
       rw [hp]; exact ⟨.tuple #[.int .u64 0, .int .i64 e0], R * Dev d s, res2 rfl rfl rfl, Dr.sat (by repeat (first | with_reducible exact dr_refl | apply dr_keep | apply dr_drop)), rfl, rfl⟩)
    | (have hp : rootA s = wordP 64 s := by unfold rootA; rw [← he0, if_neg (by simpa using h)]
       rw [hp]; exact ⟨.tuple #[.int .u64 (((wordP 64 s).1 : Nat) : Int), .int .i64 (wordP 64 s).2], R * Dev d s, res2 rfl rfl rfl, Dr.sat (by repeat (first | with_reducible exact dr_refl | apply dr_keep | apply dr_drop)), rfl, rfl⟩)
end Go.Vl

set_option linter.unusedVariables false
set_option linter.unusedSimpArgs false
namespace Go.Vl
open Go Go.Proofs
/-- How many words bytes touch. -/
def cw (p m : Nat) : Nat := if m = 0 then 0 else (p + m - 1) / 8 - p / 8 + 1
/-- The image that the statement begins with. -/
def im (n : Nat) : List Nat := (List.range n).map fun i => (i + 1) % 256
theorem lineF_lb {xs : List Nat} (hb : ∀ x ∈ xs, x < 256) {i : Nat} (hi : i * 64 + 64 ≤ xs.length) : lb (seenL (lineF xs i)) = (xs.drop (i * 64)).take 64 := by
  have e : seenL (lineF xs i) = (List.replicate 8 0).mapIdx fun k _ => wordF xs i k := by simp [seenL, lineF]
  rw [e]
  have key : ∀ k, k ≤ 8 → lb (((List.replicate 8 0).mapIdx fun k _ => wordF xs i k).take k) = (xs.drop (i * 64)).take (k * 8) := by
    intro k
    induction k with
    | zero => intro _; simp [lb]
    | succ k ih =>
      intro hk
      rw [lb_take (by simp; omega), ih (by omega)]
      simp only [List.getElem_mapIdx, wordF]
      have h1 := le_nm ((xs.drop (i * 64 + k * 8)).take 8) (fun x hx => hb x (List.mem_of_mem_drop (List.mem_of_mem_take hx)))
      rw [List.length_take, List.length_drop, Nat.min_eq_left (by omega)] at h1
      rw [h1, show (k + 1) * 8 = k * 8 + 8 by omega, List.take_add, List.drop_drop]
  have := key 8 (by omega)
  rwa [List.take_of_length_le (by simp)] at this
end Go.Vl

set_option linter.unusedVariables false
set_option linter.unusedSimpArgs false
namespace Go.Vl
open Go Go.Proofs
/-! ### What all contents of the lines of a range have in common -/
/-- All contents of all lines have the bytes c from at_ on. -/
def Ag (at_ : Nat) (c : List Nat) (s : DevS) : Prop := ∀ x, x < c.length → ∀ l, s.ls[(at_ + x) / 64]? = some l → ∀ σ ∈ l.st, (lb σ)[(at_ + x) % 64]? = c[x]?
def AgI (at_ : Nat) (c : List Nat) (I : List Nat) : Prop := ∀ x, x < c.length → I[at_ + x]? = c[x]?
/-! ### Lines are flushed -/
/-- Lines from q on, k of them, flushed. -/
def flsh (k q : Nat) (ls : List LineS) : List LineS := ls.mapIdx fun i l => if q ≤ i ∧ i < q + k then flushL l else l
end Go.Vl

set_option linter.unusedVariables false
set_option linter.unusedSimpArgs false
namespace Go.Vl
open Go Go.Proofs
/-- Every line has one content alone. -/
def Cln (s : DevS) : Prop := ∀ l ∈ s.ls, l.st.length = 1
def chunk (q : Nat) (I : List Nat) : List Nat := (I.drop (q * 64)).take 64
/-- Every content of every line is as X says. -/
def Poss (X : Nat → List Nat → Prop) (s : DevS) : Prop := ∀ (q : Nat) (l : LineS), s.ls[q]? = some l → ∀ σ ∈ l.st, X q (lb σ)
/-- The state behind a loss. -/
def Lost (X : Nat → List Nat → Prop) (n : Nat) (s : DevS) : Prop := s.off = true ∧ WfD s ∧ Cln s ∧ Poss X s ∧ s.ls.length = n
/-- What holds behind a store that went well, seen from before. -/
def Went (X : Nat → List Nat → Prop) (p m : Nat) (s s2 : DevS) : Prop := s2.off = false ∧ WfD s2 ∧ Poss X s2 ∧ s2.ls.length = s.ls.length ∧ ∀ q : Nat, (q + 1) * 64 ≤ p ∨ p + m ≤ q * 64 → s2.ls[q]? = s.ls[q]?
end Go.Vl

set_option linter.unusedVariables false
set_option linter.unusedSimpArgs false
namespace Go.Vl
open Go Go.Proofs
theorem old_heap' {W w : World} {g : Gh} (h : sat g w (old W)) {k : Nat} (hk : k < W.heap.size) : w.heap[k]? = W.heap[k]? := by
  obtain ⟨x, rfl, hx⟩ := h.hp
  have := Array.getElem?_eq_getElem hk
  rw [this]; exact hx _ _ true (by simp [this])
theorem cell_old' {W : World} {b off : Nat} {v : Value} (h : W.cell? ⟨b, off, none⟩ = some v) : Cell (old W) b off v := fun g w hs => by
  have hb : b < W.heap.size := by
    rcases Nat.lt_or_ge b W.heap.size with h1 | h1
    · exact h1
    · exfalso
      have : W.heap[b]? = none := Array.getElem?_eq_none h1
      simp [World.cell?, this] at h
  have := old_heap' hs hb
  rw [← h]; simp only [World.cell?, this]
theorem rs_old {W : World} {a : Addr} {xs : List Value} (h : ∀ i v, xs[i]? = some v → W.cell? (a.add i) = some v) : Rs (old W) (some a) xs := by
  cases xs with
  | nil => exact rs_nil
  | cons x l =>
    obtain ⟨b, off, spot⟩ := a
    have h0 := h 0 x rfl
    have hspot : spot = none := by simpa [Addr.add] using World.cell?_spot h0
    subst hspot
    refine fun g w hs i v hv => ⟨b, off, rfl, ?_⟩
    have := h i v hv
    rw [WideShapes.add_plain] at this
    exact cell_old' this g w hs
/-- Whatever lies there as a value of type t, by the argument's own reading, r holds of. -/
def Rdb {α : Type} (P : Program) (W : World) (t : TypeId) (r : List Value → α → Prop) : Prop :=
  ∀ (H : Type) (enc : TypeId × Value → H) (spare : Nat → Bool) (held : Bool) (fuel : Nat) (cs : List Value) (d : DataW H) (pl : List MemPlace),
    DataW.trod enc P W 0 spare held fuel t cs = some (d, pl) → (∀ n ∈ d.weights P t, n ≤ reachBytes) → ∃ x, r cs x
theorem Rdb.mono {α β : Type} {P : Program} {W : World} {t : TypeId} {r : List Value → α → Prop} {q : List Value → β → Prop} (h : Rdb P W t r) (k : ∀ cs x, r cs x → ∃ y, q cs y) : Rdb P W t q :=
  fun H enc sp hd fu cs d pl h1 h2 => by obtain ⟨x, hx⟩ := h H enc sp hd fu cs d pl h1 h2; exact k cs x hx
def PInt (k : IntKind) (cs : List Value) (n : Int) : Prop := cs = [.int k n] ∧ (Lit.int k n).wf = true
theorem rdb_int {P : Program} {W : World} {t : TypeId} {k : IntKind} (ht : P.underlying t = some (.int k)) : Rdb P W t (PInt k) := fun H enc sp hd fu cs d pl h _ => by
  obtain ⟨n, e, _, hw⟩ := DataW.trod_int ht h
  exact ⟨n, e, hw⟩
def PBool (cs : List Value) (b : Bool) : Prop := cs = [.bool b]
theorem rdb_bool {P : Program} {W : World} {t : TypeId} (ht : P.underlying t = some .bool) : Rdb P W t PBool := fun H enc sp hd fu cs d pl h _ => by
  obtain ⟨b, e, _⟩ := DataW.trod_bool ht h
  exact ⟨b, e⟩
/-- A slice: its elements' cells, and what each is. -/
def PSl {α : Type} (A : SP) (k b : Nat) (r : List Value → α → Prop) (cs : List Value) (xs : List α) : Prop :=
  ∃ (a : Option Addr) (cap : Nat) (Cs : List (List Value)), cs = [.slice a xs.length cap] ∧ xs.length ≤ cap ∧ xs.length * b ≤ reachBytes ∧ Cs.length = xs.length ∧ (∀ i (h : i < xs.length) (h' : i < Cs.length), Cs[i].length = k ∧ r Cs[i] xs[i]) ∧ Rs A a Cs.flatten
theorem weightsAll_mem {H : Type} {P : Program} {e : TypeId} : ∀ {l : List (DataW H)} {d : DataW H}, d ∈ l → ∀ n ∈ d.weights P e, n ∈ DataW.weightsAll P e l
  | x :: l, d, h, n, hn => by
    simp only [DataW.weightsAll, List.mem_append]
    rcases List.mem_cons.1 h with rfl | h
    · exact .inl hn
    · exact .inr (weightsAll_mem h n hn)
theorem flat_at {k : Nat} : ∀ {Cs : List (List Value)} (_ : ∀ c ∈ Cs, c.length = k) {i j : Nat} (_ : j < k) (hi : i < Cs.length), Cs.flatten[i * k + j]? = Cs[i][j]?
  | c :: Cs, h, 0, j, hj, _ => by
    rw [Nat.zero_mul, Nat.zero_add, List.flatten_cons, List.getElem?_append_left (by rw [h c (by simp)]; exact hj)]; rfl
  | c :: Cs, h, i + 1, j, hj, hi => by
    have hc := h c (by simp)
    rw [List.flatten_cons, List.getElem?_append_right (by rw [hc, Nat.add_mul]; omega), hc, show (i + 1) * k + j - k = i * k + j by rw [Nat.add_mul]; omega]
    exact flat_at (fun x hx => h x (List.mem_cons_of_mem _ hx)) hj (by simpa using hi)
theorem flat_length {k : Nat} : ∀ {Cs : List (List Value)} (_ : ∀ c ∈ Cs, c.length = k), Cs.flatten.length = Cs.length * k
  | [], _ => by simp
  | c :: Cs, h => by
    rw [List.flatten_cons, List.length_append, h c (by simp), flat_length (fun x hx => h x (List.mem_cons_of_mem _ hx)), List.length_cons, Nat.add_mul]; omega
theorem rdb_slice {α : Type} {P : Program} {W : World} {t e : TypeId} {k b : Nat} {r : List Value → α → Prop} (ht : P.underlying t = some (.slice e)) (hk : P.cellsOf e = k) (hb : P.bytesOf e = b) (hk0 : 0 < k) (hr : Rdb P W e r) : Rdb P W t (PSl (old W) k b r) := fun H enc sp hd fu cs d pl h hw => by
  rcases Deep.open_slice ht h with ⟨rfl, _⟩ | ⟨a, len, cap, m, n, D, Pl, rfl, _, hl, _, hm, hx, hel⟩
  · exact ⟨[], none, 0, [], rfl, Nat.le_refl _, by simp, rfl, fun i h => by simp at h, rs_nil⟩
  · have hlm : len ≤ m := by rw [hm]; split <;> omega
    simp only [Prod.mk.injEq] at hx
    obtain ⟨rfl, _⟩ := hx
    have hall : ∀ n ∈ DataW.weights P t (DataW.slice ((List.range len).map D) ((List.range (m - len)).map fun j => D (len + j))), n ≤ reachBytes := hw
    have hw1 : (len + (m - len)) * P.bytesOf e ≤ reachBytes := by
      have := hall ((len + (m - len)) * P.bytesOf e) (by simp [DataW.weights, ht])
      exact this
    have hex : ∀ i, i < len → ∃ p : List Value × α, p.1.length = k ∧ r p.1 p.2 ∧ ∀ j v, p.1[j]? = some v → W.cell? (a.add (i * k + j)) = some v := fun i hi => by
      obtain ⟨cs', h1, h2⟩ := hel i (by omega)
      rw [hk] at h1
      obtain ⟨_, hlen, h3⟩ := World.cells?_some h1
      obtain ⟨x, hx⟩ := hr H enc sp hd n cs' (D i) (Pl i) h2 (fun n hn => hall n (by
        simp only [DataW.weights, ht, List.mem_cons, List.mem_append]
        refine .inr (.inl (weightsAll_mem (d := D i) ?_ n hn))
        exact List.mem_map.2 ⟨i, List.mem_range.2 hi, rfl⟩))
      refine ⟨(cs', x), hlen, hx, fun j v hv => ?_⟩
      have hj : j < k := by have h9 : j < cs'.length := lt_at hv; omega
      have := h3 j hj
      rw [Deep.add_add] at this
      rw [this, hv]
    rcases Nat.eq_zero_or_pos len with h0 | h0
    · subst h0
      exact ⟨[], some a, cap, [], rfl, Nat.zero_le _, by simp, rfl, fun i h => by simp at h, rs_nil⟩
    · obtain ⟨p0, _⟩ := hex 0 h0
      haveI : Inhabited (List Value × α) := ⟨p0⟩
      obtain ⟨f, hf⟩ := Deep.choose_lt hex
      refine ⟨(List.range len).map fun i => (f i).2, some a, cap, (List.range len).map fun i => (f i).1, by simp, by simpa using hl, ?_, by simp, fun i h h' => ?_, rs_old fun i v hv => ?_⟩
      · simp only [List.length_map, List.length_range, ← hb]
        exact Nat.le_trans (Nat.mul_le_mul_right _ (by omega)) hw1
      · simp only [List.length_map, List.length_range] at h
        simp only [List.getElem_map, List.getElem_range]
        exact ⟨(hf i h).1, (hf i h).2.1⟩
      · have hCk : ∀ c ∈ (List.range len).map fun i => (f i).1, c.length = k := fun c hc => by
          obtain ⟨i, hi, rfl⟩ := List.mem_map.1 hc
          exact (hf i (List.mem_range.1 hi)).1
        have hi := lt_at hv
        rw [flat_length hCk, List.length_map, List.length_range] at hi
        have hq : i / k < len := Nat.div_lt_of_lt_mul (by rw [Nat.mul_comm]; exact hi)
        have hm2 : i % k < k := Nat.mod_lt _ hk0
        have e : i = i / k * k + i % k := (Nat.div_add_mod' i k).symm
        rw [e, flat_at hCk hm2 (by simpa using hq)] at hv
        simp only [List.getElem_map, List.getElem_range] at hv
        rw [e]
        exact (hf (i / k) hq).2.2 _ v hv
/-- The fields of a struct, one by one. -/
theorem rdb_fields {P : Program} {W : World} {t : TypeId} {fs : Array Field} (ht : P.underlying t = some (.struct fs)) {H : Type} {enc : TypeId × Value → H} {sp : Nat → Bool} {hd : Bool} {fu : Nat} {cs : List Value} {d : DataW H} {pl : List MemPlace}
    (h : DataW.trod enc P W 0 sp hd fu t cs = some (d, pl)) (hw : ∀ n ∈ d.weights P t, n ≤ reachBytes) : cs.length = P.cellsOf t ∧
    ∀ (j : Nat) (f : Field), fs[j]? = some f → ∀ {α : Type} {r : List Value → α → Prop}, Rdb P W f.type r → ∃ x, r ((cs.drop f.offset).take (P.cellsOf f.type)) x := by
  obtain ⟨xs, n, _, hx, hl, hlen, hf⟩ := DataW.trod_struct ht h
  refine ⟨hl, fun j f hj α r hr => ?_⟩
  simp only [Prod.mk.injEq] at hx
  obtain ⟨rfl, _⟩ := hx
  have hj' : j < xs.length := by
    have h1 : j < fs.size := (Array.getElem?_eq_some_iff.1 hj).1
    have h2 : xs.length = fs.size := by simpa using hlen
    omega
  have := hf j f hj
  rw [List.getElem?_eq_getElem hj'] at this
  refine hr H enc sp hd n _ xs[j].1 xs[j].2 this (fun m hm => hw m ?_)
  simp only [DataW.weights, ht]
  exact DataW.weights_mem_each (ts := fs.toList.map (·.type)) (ds := xs.map (·.1)) (j := j) (t := f.type) (d := xs[j].1) (by simp [hj]) (by simp [hj']) m hm
theorem flat1 {α : Type} {r : List Value → α → Prop} {f : α → Value} : ∀ {Cs : List (List Value)} {xs : List α} (_ : Cs.length = xs.length) (_ : ∀ i (h : i < xs.length) (h' : i < Cs.length), Cs[i] = [f xs[i]]), Cs.flatten = xs.map f
  | [], [], _, _ => rfl
  | c :: Cs, x :: xs, hl, h => by
    have h0 := h 0 (by simp) (by simp)
    simp only [List.getElem_cons_zero] at h0
    rw [List.flatten_cons, h0, flat1 (r := r) (f := f) (Cs := Cs) (xs := xs) (by simpa using hl) (fun i hi hi' => h (i + 1) (by simpa using hi) (by simpa using hi'))]; rfl
/-- Bytes. -/
def PBys (A : SP) (cs : List Value) (xs : List Nat) : Prop := ∃ a cap, cs = [.slice a xs.length cap] ∧ xs.length ≤ cap ∧ xs.length ≤ 140737488351232 ∧ Rs A a (bys xs) ∧ ∀ x ∈ xs, x < 256
def PInts (A : SP) (cs : List Value) (xs : List Int) : Prop := ∃ a cap, cs = [.slice a xs.length cap] ∧ xs.length ≤ cap ∧ xs.length ≤ 17592186043904 ∧ Rs A a (ints xs) ∧ ∀ x ∈ xs, -9223372036854775808 ≤ x ∧ x ≤ 9223372036854775807
theorem i64_wf {x : Int} (h : (Lit.int .i64 x).wf = true) : -9223372036854775808 ≤ x ∧ x ≤ 9223372036854775807 := Go.bounds_i64 h
theorem rdb_bys {P : Program} {W : World} {t e : TypeId} (ht : P.underlying t = some (.slice e)) (he : P.underlying e = some (.int .u8)) (hk : P.cellsOf e = 1) (hb : P.bytesOf e = 1) : Rdb P W t (PBys (old W)) :=
  (rdb_slice ht hk hb (by decide) (rdb_int he)).mono fun cs zs ⟨a, cap, Cs, e1, hc, hs, hl, hx, hr⟩ => by
    have hz : ∀ z ∈ zs, 0 ≤ z ∧ z ≤ 255 := fun z hz => by
      obtain ⟨i, hi, rfl⟩ := List.mem_iff_getElem.1 hz
      exact Go.bounds_u8 (hx i hi (by omega)).2.2
    have e2 : Cs.flatten = bys (zs.map Int.toNat) := by
      rw [flat1 (r := PInt .u8) (f := fun z : Int => .int .u8 z) hl (fun i h h' => (hx i h h').2.1), bys, List.map_map]
      refine List.map_congr_left fun z hzm => ?_
      have := hz z hzm
      simp only [Function.comp, b8]; congr 1; omega
    refine ⟨zs.map Int.toNat, a, cap, by simpa using e1, by simpa using hc, ?_, by rw [← e2]; exact hr, fun x hx => ?_⟩
    · simp only [List.length_map]; unfold reachBytes at hs; omega
    · obtain ⟨z, hzm, rfl⟩ := List.mem_map.1 hx
      have := hz z hzm; omega
end Go.Vl

set_option linter.unusedVariables false
set_option linter.unusedSimpArgs false
namespace Go.Vl
open Go Go.Proofs
abbrev ub {H : Type} (d : DataW H) : Nat := Go.Proofs.Ytimckjnnjakcoaa.Rows.uptoBulk d
abbrev ubs {H : Type} (l : List (DataW H)) : Nat := Go.Proofs.Ytimckjnnjakcoaa.Rows.uptoBulkAll l
/-- Whatever lies there as a value of type t, by the argument's own reading, r holds of, and of how much. -/
def Rdu {α : Type} (P : Program) (W : World) (t : TypeId) (r : List Value → α → Prop) (sz : α → Nat) : Prop :=
  ∀ (H : Type) (enc : TypeId × Value → H) (spare : Nat → Bool) (held : Bool) (fuel : Nat) (cs : List Value) (d : DataW H) (pl : List MemPlace),
    DataW.trod enc P W 0 spare held fuel t cs = some (d, pl) → ∃ x, r cs x ∧ sz x ≤ ub d
theorem Rdu.mono {α β : Type} {P : Program} {W : World} {t : TypeId} {r : List Value → α → Prop} {s : α → Nat} {q : List Value → β → Prop} {z : β → Nat} (h : Rdu P W t r s) (k : ∀ cs x, r cs x → ∃ y, q cs y ∧ z y ≤ s x) : Rdu P W t q z :=
  fun H enc sp hd fu cs d pl h1 => by
    obtain ⟨x, hx, hs⟩ := h H enc sp hd fu cs d pl h1
    obtain ⟨y, hy, hz⟩ := k cs x hx
    exact ⟨y, hy, by omega⟩
/-- A slice: its elements' cells, and what each is. -/
def PSu {α : Type} (A : SP) (k : Nat) (r : List Value → α → Prop) (cs : List Value) (xs : List α) : Prop :=
  ∃ (a : Option Addr) (cap : Nat) (Cs : List (List Value)), cs = [.slice a xs.length cap] ∧ xs.length ≤ cap ∧ Cs.length = xs.length ∧ (∀ i (h : i < xs.length) (h' : i < Cs.length), Cs[i].length = k ∧ r Cs[i] xs[i]) ∧ Rs A a Cs.flatten
def szL {α : Type} (sz : α → Nat) (xs : List α) : Nat := (xs.map sz).sum + 1
/-- Bytes. -/
def PByU (A : SP) (cs : List Value) (xs : List Nat) : Prop := ∃ a cap, cs = [.slice a xs.length cap] ∧ xs.length ≤ cap ∧ Rs A a (bys xs) ∧ ∀ x ∈ xs, x < 256
def PInU (A : SP) (cs : List Value) (xs : List Int) : Prop := ∃ a cap, cs = [.slice a xs.length cap] ∧ xs.length ≤ cap ∧ Rs A a (ints xs) ∧ ∀ x ∈ xs, -9223372036854775808 ≤ x ∧ x ≤ 9223372036854775807
end Go.Vl

set_option linter.unusedVariables false
set_option linter.unusedSimpArgs false
namespace Go.Vl
open Go Go.Proofs
/-- An operation's cells. -/
structure Op9 where
  k : Int
  q : Int
  n : Int
  a : Option Addr
  c : Nat
  b : List Nat
  v : Nat
  ka : Option Addr
  kc : Nat
  kp : List Int
def Op9.cells (t : Op9) : List Value := [.int .i64 t.k, .int .i64 t.q, .int .i64 t.n, .slice t.a t.b.length t.c, .int .u64 (t.v : Nat), .slice t.ka t.kp.length t.kc]
structure Op9W (A : SP) (t : Op9) : Prop where
  cap : t.b.length ≤ t.c
  rs : Rs A t.a (bys t.b)
  byt : ∀ x ∈ t.b, x < 256
  v : t.v < 18446744073709551616
  kcap : t.kp.length ≤ t.kc
  krs : Rs A t.ka (ints t.kp)
  kb : ∀ x ∈ t.kp, -9223372036854775808 ≤ x ∧ x ≤ 9223372036854775807
  q : -9223372036854775808 ≤ t.q ∧ t.q ≤ 9223372036854775807
  n : -9223372036854775808 ≤ t.n ∧ t.n ≤ 9223372036854775807
def Op9.sz (t : Op9) : Nat := t.b.length + t.kp.length + 1
def ocs (l : List Op9) : List Value := l.flatMap Op9.cells
def POps (A : SP) (cs : List Value) (ops : List Op9) : Prop := ∃ a cap, cs = [.slice a ops.length cap] ∧ ops.length ≤ cap ∧ Rs A a (ocs ops) ∧ ∀ t ∈ ops, Op9W A t
/-! ### An operation on the device alone -/
def rawS (t : Op9) (s : DevS) : DevS := if t.k = 7 then (sto ((wi t.q 256 : Nat) : Int) (t.b.take (256 - wi t.q 256)) s).2 else if t.k = 8 then (fl1 ((wi t.q 256 : Nat) : Int) s).2 else if t.k = 9 then (fe s).2 else s
def rawL (l : List Op9) (s : DevS) : DevS := l.foldl (fun s t => rawS t s) s
/-- The same, but what would be stored into the range is passed over. -/
def rawB (at_ m : Nat) (t : Op9) (s : DevS) : DevS := if t.k = 7 ∧ wi t.q 256 < at_ + m ∧ at_ < wi t.q 256 + t.b.length then s else rawS t s
def rawLB (at_ m : Nat) (l : List Op9) (s : DevS) : DevS := l.foldl (fun s t => rawB at_ m t s) s
attribute [local irreducible] Sl pt ro Dev imgS
end Go.Vl

set_option linter.unusedVariables false
set_option linter.unusedSimpArgs false
namespace Go.Vl
open Go Go.Proofs
/-- Steps, one behind the other. -/
def fmtF : List (Nat × List Nat) → DevS → Int × DevS
  | [], s => (0, s)
  | t :: l, s => if (bytesP (t.1 : Int) t.2 s).1 ≠ 0 then bytesP (t.1 : Int) t.2 s else fmtF l (bytesP (t.1 : Int) t.2 s).2
def fst4 (n : Nat) : List (Nat × List Nat) := [(0, (List.replicate 64 0)), (64, (List.replicate 64 0)), (128, (List.replicate 64 0)), (0, sbB [n, 128, 32768, 32896, (n - 32896) / 256, 0])]
def stC (l : List (Nat × List Nat)) : List Value := l.flatMap fun t => .int .i64 (t.1 : Int) :: bys t.2
/-- What Format answers, and the device behind it. -/
def fmA (n : Nat) (s : DevS) : List Int × Int := if (fmtF (fst4 n) s).1 ≠ 0 then ([0, 0, 0, 0, 0], (fmtF (fst4 n) s).1) else ([(n : Int), ((128 : Nat) : Int), ((32768 : Nat) : Int), ((32896 : Nat) : Int), (((n - 32896) / 256 : Nat) : Int)], 0)
attribute [local irreducible] crk crL crc Sl pt ro mbs sbB planT Dev imgS
end Go.Vl

set_option linter.unusedVariables false
set_option linter.unusedSimpArgs false
namespace Go.Vl
open Go Go.Proofs
theorem set_lt {xs : List Nat} {i v : Nat} (h : ∀ x ∈ xs, x < 256) (hv : v < 256) : ∀ x ∈ xs.set i v, x < 256 := fun x hx => by
  rcases List.mem_or_eq_of_mem_set hx with h1 | h1
  · exact h x h1
  · omega
theorem lineT_len (q0 q1 q2 q3 q4 : Int) : (lineT q0 q1 q2 q3 q4).1.length ≤ 64 ∧ ∀ x ∈ (lineT q0 q1 q2 q3 q4).1, x < 256 := by
  unfold lineT
  split
  · refine ⟨by rw [sbB_len rfl]; exact Nat.le_refl _, fun x hx => ?_⟩
    simp only [] at hx
    unfold sbB at hx
    rw [List.mem_append] at hx
    rcases hx with hx | hx
    · exact mbs_lt _ x hx
    · exact le_bytes 8 _ x hx
  · exact ⟨by simp, by simp⟩
theorem planT_zero {n : Int} {r : List Int} (h : planT n = (r, 0)) : 36992 ≤ n := by
  unfold planT at h
  split at h
  · rename_i hc; exact hc.1
  · simp at h
attribute [local irreducible] crk crL crc Sl pt ro mbs sbB planT Dev imgS lineT
theorem ImBytes_no {A : SP} {sz tn : Int} {fl hcp : Nat} {ha : Option Addr} {hd : List Nat} {rt : Bool} (hrh : Rs A ha (bys hd)) (hhb : ∀ x ∈ hd, x < 256) (hfl : fl < 256) (hht : -9223372036854775808 ≤ tn ∧ tn ≤ 9223372036854775807) (hs : sz < 0 ∨ 4194368 < sz) :
    Fn Try.prog 64 #[.agg ([.int .i64 sz, .int .u8 (fl : Nat), .slice ha hd.length hcp, .bool rt, .int .i64 tn] : List Value).toArray] (A) (fun r B => r = .slice none 0 0 ∧ A = B) := by
  refine fn_enterW (args := [.agg ([.int .i64 sz, .int .u8 (fl : Nat), .slice ha hd.length hcp, .bool rt, .int .i64 tn] : List Value).toArray]) Try.func64 rfl Try.ntmps64 (by simp) ?_
  refine tc_seq ?_
  refine tc_reg ?_
  refine tl_x rfl (o_box rfl rfl) ?_
  rintro _ _ ⟨b1, rfl, rfl⟩
  refine tl_v rfl (o_assign (by conv => lhs; whnf)) ?_
  refine tl_nil ?_
  refine q_then_n ?_
  refine tc_seq ?_
  refine tc_seq ?_
  refine tc_reg ?_
  refine tl_v rfl (o_fieldAddr (o := 0) Try.underlying121 rfl rfl sz3 rfl) ?_
  refine tl_v rfl (by first | exact o_load p3 rfl (by repeat (first | with_reducible exact has_here | with_reducible exact has_pt | apply has_left)) rfl | exact o_loadC p3 rfl (by assumption)) ?_
  refine tl_v rfl (o_lss rfl rfl) ?_
  refine tl_v rfl (o_move (by conv => lhs; whnf)) ?_
  refine tl_bool (d := 14) rfl (fun h => ?_) (fun h => ?_)
  · try simp only [decide_eq_true_eq, decide_eq_false_iff_not, Bool.not_eq_true', Bool.not_eq_false', Option.isNone_some, Option.isNone_none, Bool.not_true, Bool.not_false] at h
    refine tl_skip rfl ?_
    refine tl_skip rfl ?_
    refine tl_skip rfl ?_
    refine tl_v rfl (o_pick_t rfl (by conv => lhs; whnf)) ?_
    refine tl_nil ?_
    refine q_then_n ?_
    refine tc_cond_t rfl ?_
    refine tc_seq ?_
    refine tc_reg ?_
    refine tl_v rfl (o_assign (by conv => lhs; whnf)) ?_
    refine tl_nil ?_
    refine q_then_n ?_
    refine tc_ret ?_
    refine q_then_r ?_
    exact ⟨.slice none 0 0, A, res1 rfl rfl, Dr.sat (by repeat (first | with_reducible exact dr_refl | apply dr_keep | apply dr_drop)), rfl, rfl⟩
  · try simp only [decide_eq_true_eq, decide_eq_false_iff_not, Bool.not_eq_true', Bool.not_eq_false', Option.isNone_some, Option.isNone_none, Bool.not_true, Bool.not_false] at h
    refine tl_v rfl (o_fieldAddr (o := 0) Try.underlying121 rfl rfl sz3 rfl) ?_
    refine tl_v rfl (by first | exact o_load p3 rfl (by repeat (first | with_reducible exact has_here | with_reducible exact has_pt | apply has_left)) rfl | exact o_loadC p3 rfl (by assumption)) ?_
    refine tl_v rfl (o_gtr rfl rfl) ?_
    refine tl_v rfl (o_pick_f rfl (by conv => lhs; whnf)) ?_
    refine tl_nil ?_
    refine q_then_n ?_
    refine tc_cond rfl (fun h => ?_) (fun h => ?_)
    · try simp only [decide_eq_true_eq, decide_eq_false_iff_not, Bool.not_eq_true', Bool.not_eq_false', Option.isNone_some, Option.isNone_none, Bool.not_true, Bool.not_false] at h
      refine tc_seq ?_
      refine tc_reg ?_
      refine tl_v rfl (o_assign (by conv => lhs; whnf)) ?_
      refine tl_nil ?_
      refine q_then_n ?_
      refine tc_ret ?_
      refine q_then_r ?_
      exact ⟨.slice none 0 0, A, res1 rfl rfl, Dr.sat (by repeat (first | with_reducible exact dr_refl | apply dr_keep | apply dr_drop)), rfl, rfl⟩
    · exfalso; simp at h; omega
set_option maxRecDepth 20000 in
set_option maxHeartbeats 2000000 in
theorem ImBytes_ok {A : SP} {n : Nat} {tn : Int} {fl hcp : Nat} {ha : Option Addr} {hd : List Nat} {rt : Bool} (hrh : Rs A ha (bys hd)) (hhb : ∀ x ∈ hd, x < 256) (hfl : fl < 256) (hht : -9223372036854775808 ≤ tn ∧ tn ≤ 9223372036854775807) (hn : n ≤ 4194368) (hhl : hd.length ≤ 140737488351232) :
    Fn Try.prog 64 #[.agg ([.int .i64 (n : Int), .int .u8 (fl : Nat), .slice ha hd.length hcp, .bool rt, .int .i64 tn] : List Value).toArray] (A) (fun r B => ∃ a c xs, r = .slice a n c ∧ n ≤ c ∧ xs.length = n ∧ (∀ x ∈ xs, x < 256) ∧ B = A * Sl 1 (.slice a n c) n (bys xs)) := by
  refine fn_enterW (args := [.agg ([.int .i64 (n : Int), .int .u8 (fl : Nat), .slice ha hd.length hcp, .bool rt, .int .i64 tn] : List Value).toArray]) Try.func64 rfl Try.ntmps64 (by simp) ?_
  refine tc_seq ?_
  refine tc_reg ?_
  refine tl_x rfl (o_box rfl rfl) ?_
  rintro _ _ ⟨b1, rfl, rfl⟩
  refine tl_v rfl (o_assign (by conv => lhs; whnf)) ?_
  refine tl_nil ?_
  refine q_then_n ?_
  refine tc_seq ?_
  refine tc_seq ?_
  refine tc_reg ?_
  refine tl_v rfl (o_fieldAddr (o := 0) Try.underlying121 rfl rfl sz3 rfl) ?_
  refine tl_v rfl (by first | exact o_load p3 rfl (by repeat (first | with_reducible exact has_here | with_reducible exact has_pt | apply has_left)) rfl | exact o_loadC p3 rfl (by assumption)) ?_
  refine tl_v rfl (o_lss rfl rfl) ?_
  refine tl_v rfl (o_move (by conv => lhs; whnf)) ?_
  refine tl_bool (d := 14) rfl (fun h => ?_) (fun h => ?_)
  · exfalso; simp at h; omega
  · try simp only [decide_eq_true_eq, decide_eq_false_iff_not, Bool.not_eq_true', Bool.not_eq_false', Option.isNone_some, Option.isNone_none, Bool.not_true, Bool.not_false] at h
    refine tl_v rfl (o_fieldAddr (o := 0) Try.underlying121 rfl rfl sz3 rfl) ?_
    refine tl_v rfl (by first | exact o_load p3 rfl (by repeat (first | with_reducible exact has_here | with_reducible exact has_pt | apply has_left)) rfl | exact o_loadC p3 rfl (by assumption)) ?_
    refine tl_v rfl (o_gtr rfl rfl) ?_
    refine tl_v rfl (o_pick_f rfl (by conv => lhs; whnf)) ?_
    refine tl_nil ?_
    refine q_then_n ?_
    refine tc_cond rfl (fun h => ?_) (fun h => ?_)
    · exfalso; simp at h; omega
    · try simp only [decide_eq_true_eq, decide_eq_false_iff_not, Bool.not_eq_true', Bool.not_eq_false', Option.isNone_some, Option.isNone_none, Bool.not_true, Bool.not_false] at h
      refine tc_skip ?_
      refine q_then_n ?_
      refine tc_seq ?_
      refine tc_reg ?_
      refine tl_v rfl (o_fieldAddr (o := 0) Try.underlying121 rfl rfl sz3 rfl) ?_
      refine tl_v rfl (by first | exact o_load p3 rfl (by repeat (first | with_reducible exact has_here | with_reducible exact has_pt | apply has_left)) rfl | exact o_loadC p3 rfl (by assumption)) ?_
      refine tl_x rfl (o_makeSlice (len := n) (cap := n) Try.underlying28 sz5 by5 z5 rfl rfl rfl (by omega) (by omega) (by omega)) ?_
      rintro _ _ ⟨b21, rfl, rfl⟩
      refine tl_pre (fun _ _ h => sl_new (k := 1) (n := n) (cap := n) (xs := bys (List.replicate n 0)) h (by omega) (by simp) (by rw [Nat.mul_one, List.take_of_length_le (by simp)]; unfold bys; rw [List.map_replicate]; rfl)) ?_
      refine tl_v rfl (o_assign (by conv => lhs; whnf)) ?_
      refine tl_nil ?_
      refine q_then_n ?_
      refine tc_seq ?_
      refine tc_seq ?_
      refine tc_reg ?_
      refine tl_v rfl (o_assign (by conv => lhs; whnf)) ?_
      refine tl_nil ?_
      refine q_then_n ?_
      refine tc_block ?_
      refine tc_loop (fun kk ρ BB => ∃ (i : Nat) (xs : List Nat), (i ≤ n) ∧ (xs.length = n) ∧ (∀ x ∈ xs, x < 256) ∧ kk = n - i ∧ ρ 4 = .int .i64 (i : Nat) ∧ ρ 1 = .pointer (some ⟨b1, 0, none⟩) ∧ ρ 3 = .slice (some ⟨b21, 0, none⟩) n n ∧ BB = A * pt b1 (cl [.int .i64 (n : Int), .int .u8 (fl : Nat), .slice ha hd.length hcp, .bool rt, .int .i64 tn] 121) * Sl 1 (.slice (some ⟨b21, 0, none⟩) n n) n (bys xs)) (m := n - (0)) ?_ ?_
      · exact ⟨0, List.replicate n 0, Nat.zero_le _, by simp, fun x hx => by have := List.eq_of_mem_replicate hx; omega, rfl, rfl, rfl, rfl, rfl⟩
      · intro k ρ B hI
        obtain ⟨i, xs, hp0, hp1, hp2, hkk1, hE4, hE1, hE3, rfl⟩ := hI
        refine tc_env (d := 4) hE4 ?_
        refine tc_env (d := 1) hE1 ?_
        refine tc_env (d := 3) hE3 ?_
        clear hE4 hE1 hE3
        refine tc_seq ?_
        refine tc_seq ?_
        refine tc_reg ?_
        refine tl_v rfl (o_move (by conv => lhs; whnf)) ?_
        refine tl_v rfl (o_move (by conv => lhs; whnf)) ?_
        refine tl_v rfl (o_len Try.underlying28 rfl) ?_
        refine tl_v rfl (o_lss rfl rfl) ?_
        refine tl_nil ?_
        refine q_then_n ?_
        refine tc_cond rfl (fun h => ?_) (fun h => ?_)
        · have hi : i < n := by simpa using h
          refine tc_skip ?_
          refine q_then_n ?_
          refine tc_seq ?_
          refine tc_block ?_
          refine tc_reg ?_
          refine tl_v rfl (o_move (by conv => lhs; whnf)) ?_
          refine tl_v rfl (o_move (by conv => lhs; whnf)) ?_
          refine tl_v rfl (o_fieldAddr (o := 1) Try.underlying121 rfl rfl sz5 rfl) ?_
          refine tl_v rfl (by first | exact o_load p5 rfl (by repeat (first | with_reducible exact has_here | with_reducible exact has_pt | apply has_left)) rfl | exact o_loadC p5 rfl (by assumption)) ?_
          refine tl_v rfl (o_ixP1 Try.underlying28 sz5 rfl rfl (by first | omega | (simp only [bys_length, ints_length, wds_length, bos_length, List.length_append, List.length_take, List.length_drop, List.length_singleton]; omega)) (by repeat (first | exact nn_some | with_reducible exact nn_sl (by decide) | exact nn_rs (by assumption) (fun _ => by first | omega | (simp only [bys_length, ints_length, wds_length, bos_length, List.length_append, List.length_take, List.length_drop, List.length_singleton]; omega)) | apply Nn.left))) ?_
          refine tl_u rfl (o_stP (ys := bys (xs.set i fl)) sz5 rfl rfl rfl (by repeat (first | with_reducible exact ct_here | apply ct_left)) (by omega) (bys_set _ _ _)) ?_
          refine tl_nil ?_
          refine q_block_n (q_then_n ?_)
          refine tc_reg ?_
          refine tl_v rfl (o_move (by conv => lhs; whnf)) ?_
          refine tl_v rfl (by first | exact o_addI rfl rfl (by omega) | exact o_add rfl rfl) ?_
          refine tl_v rfl (o_assign (by conv => lhs; whnf)) ?_
          refine tl_nil ?_
          refine q_then_n ?_
          exact ⟨_, by omega, i + 1, xs.set i fl, by omega, by rw [List.length_set]; exact hp1, set_lt hp2 hfl, rfl, rfl, rfl, rfl, rfl⟩
        · try simp only [decide_eq_true_eq, decide_eq_false_iff_not, Bool.not_eq_true', Bool.not_eq_false', Option.isNone_some, Option.isNone_none, Bool.not_true, Bool.not_false] at h
          refine tc_exit ?_
          refine q_then_e (q_then_e (q_block_x (q_then_n ?_)))
          refine tc_seq ?_
          refine tc_seq ?_
          refine tc_reg ?_
          refine tl_v rfl (o_assign (by conv => lhs; whnf)) ?_
          refine tl_nil ?_
          refine q_then_n ?_
          refine tc_block ?_
          refine tc_loop (fun kk ρ BB => ∃ (i : Nat) (xs : List Nat), (i ≤ n) ∧ (xs.length = n) ∧ (∀ x ∈ xs, x < 256) ∧ kk = n - i ∧ ρ 5 = .int .i64 (i : Nat) ∧ ρ 1 = .pointer (some ⟨b1, 0, none⟩) ∧ ρ 3 = .slice (some ⟨b21, 0, none⟩) n n ∧ BB = A * pt b1 (cl [.int .i64 (n : Int), .int .u8 (fl : Nat), .slice ha hd.length hcp, .bool rt, .int .i64 tn] 121) * Sl 1 (.slice (some ⟨b21, 0, none⟩) n n) n (bys xs)) (m := n - (0)) ?_ ?_
          · exact ⟨0, xs, Nat.zero_le _, hp1, hp2, rfl, rfl, rfl, rfl, rfl⟩
          · intro k ρ B hI
            obtain ⟨i, xs, hp0, hp1, hp2, hkk2, hE5, hE1, hE3, rfl⟩ := hI
            refine tc_env (d := 5) hE5 ?_
            refine tc_env (d := 1) hE1 ?_
            refine tc_env (d := 3) hE3 ?_
            clear hE5 hE1 hE3
            refine tc_seq ?_
            refine tc_seq ?_
            refine tc_reg ?_
            refine tl_v rfl (o_move (by conv => lhs; whnf)) ?_
            refine tl_v rfl (o_move (by conv => lhs; whnf)) ?_
            refine tl_v rfl (o_len Try.underlying28 rfl) ?_
            refine tl_v rfl (o_lss rfl rfl) ?_
            refine tl_v rfl (o_move (by conv => lhs; whnf)) ?_
            refine tl_bool (d := 37) rfl (fun h => ?_) (fun h => ?_)
            · have hin : i < n := by simpa using h
              refine tl_v rfl (o_move (by conv => lhs; whnf)) ?_
              refine tl_v rfl (o_fieldAddr (o := 2) Try.underlying121 rfl rfl sz28 rfl) ?_
              refine tl_v rfl (by first | exact o_load p28 rfl (by repeat (first | with_reducible exact has_here | with_reducible exact has_pt | apply has_left)) rfl | exact o_loadC p28 rfl (by assumption)) ?_
              refine tl_v rfl (o_len Try.underlying28 rfl) ?_
              refine tl_v rfl (o_lss rfl rfl) ?_
              refine tl_v rfl (o_pick_t rfl (by conv => lhs; whnf)) ?_
              refine tl_nil ?_
              refine q_then_n ?_
              refine tc_cond rfl (fun h => ?_) (fun h => ?_)
              · have hi : i < hd.length := by simp at h; omega
                refine tc_skip ?_
                refine q_then_n ?_
                refine tc_seq ?_
                refine tc_block ?_
                refine tc_reg ?_
                refine tl_v rfl (o_move (by conv => lhs; whnf)) ?_
                refine tl_v rfl (o_move (by conv => lhs; whnf)) ?_
                refine tl_v rfl (o_fieldAddr (o := 2) Try.underlying121 rfl rfl sz28 rfl) ?_
                refine tl_v rfl (by first | exact o_load p28 rfl (by repeat (first | with_reducible exact has_here | with_reducible exact has_pt | apply has_left)) rfl | exact o_loadC p28 rfl (by assumption)) ?_
                refine tl_v rfl (o_move (by conv => lhs; whnf)) ?_
                refine tl_v rfl (o_ixP1 Try.underlying28 sz5 rfl rfl (by omega) (nn_rs (by repeat (first | exact hrh | apply Rs.left)) (fun _ => by rw [bys_length]; omega))) ?_
                refine tl_v rfl (o_ldP p5 rfl (by repeat (first | exact hrh | apply Rs.left)) (bys_at hi)) ?_
                refine tl_v rfl (o_ixP1 Try.underlying28 sz5 rfl rfl (by first | omega | (simp only [bys_length, ints_length, wds_length, bos_length, List.length_append, List.length_take, List.length_drop, List.length_singleton]; omega)) (by repeat (first | exact nn_some | with_reducible exact nn_sl (by decide) | exact nn_rs (by assumption) (fun _ => by first | omega | (simp only [bys_length, ints_length, wds_length, bos_length, List.length_append, List.length_take, List.length_drop, List.length_singleton]; omega)) | apply Nn.left))) ?_
                refine tl_u rfl (o_stP (ys := bys (xs.set i hd[i])) sz5 rfl rfl rfl (by repeat (first | with_reducible exact ct_here | apply ct_left)) (by omega) (bys_set _ _ _)) ?_
                refine tl_nil ?_
                refine q_block_n (q_then_n ?_)
                refine tc_reg ?_
                refine tl_v rfl (o_move (by conv => lhs; whnf)) ?_
                refine tl_v rfl (by first | exact o_addI rfl rfl (by omega) | exact o_add rfl rfl) ?_
                refine tl_v rfl (o_assign (by conv => lhs; whnf)) ?_
                refine tl_nil ?_
                refine q_then_n ?_
                exact ⟨_, by omega, i + 1, xs.set i hd[i], by omega, by rw [List.length_set]; exact hp1, set_lt hp2 (hhb _ (List.getElem_mem hi)), rfl, rfl, rfl, rfl, rfl⟩
              · try simp only [decide_eq_true_eq, decide_eq_false_iff_not, Bool.not_eq_true', Bool.not_eq_false', Option.isNone_some, Option.isNone_none, Bool.not_true, Bool.not_false] at h
                refine tc_exit ?_
                refine q_then_e (q_then_e (q_block_x (q_then_n ?_)))
                refine tc_seq ?_
                obtain ⟨q0, q1, q2, q3, q4, pe, hpl, hpl4, hpl5⟩ := planT_five (n : Int)
                refine tc_reg ?_
                refine tl_v rfl (o_fieldAddr (o := 0) Try.underlying121 rfl rfl sz3 rfl) ?_
                refine tl_v rfl (by first | exact o_load p3 rfl (by repeat (first | with_reducible exact has_here | with_reducible exact has_pt | apply has_left)) rfl | exact o_loadC p3 rfl (by assumption)) ?_
                refine tl_c rfl (o_call bd19 rfl (PlanR_q hpl)) ?_
                rintro _ _ ⟨rfl, rfl⟩
                refine tl_v rfl (o_move (by conv => lhs; whnf)) ?_
                refine tl_v rfl (o_extract rfl rfl) ?_
                refine tl_v rfl (o_extract rfl rfl) ?_
                refine tl_x rfl (o_alloc z23 rfl) ?_
                rintro _ _ ⟨b6, rfl, rfl⟩
                refine tl_u rfl (o_stUN (l' := ints [q0, q1, q2, q3, q4]) rfl (by repeat (first | with_reducible exact upd_here | with_reducible exact upd_pt | apply upd_left)) sz23 rfl rfl rfl (by show 5 ≤ 5; decide) rfl) ?_
                refine tl_v rfl (o_assign (by conv => lhs; whnf)) ?_
                refine tl_nil ?_
                refine q_then_n ?_
                refine tc_seq ?_
                refine tc_seq ?_
                refine tc_reg ?_
                refine tl_v rfl (o_fieldAddr (o := 3) Try.underlying121 rfl rfl sz4 rfl) ?_
                refine tl_v rfl (by first | exact o_load p4 rfl (by repeat (first | with_reducible exact has_here | with_reducible exact has_pt | apply has_left)) rfl | exact o_loadC p4 rfl (by assumption)) ?_
                refine tl_v rfl (o_move (by conv => lhs; whnf)) ?_
                refine tl_bool (d := 62) rfl (fun h => ?_) (fun h => ?_)
                · try simp only [decide_eq_true_eq, decide_eq_false_iff_not, Bool.not_eq_true', Bool.not_eq_false', Option.isNone_some, Option.isNone_none, Bool.not_true, Bool.not_false] at h
                  refine tl_v rfl (o_move (by conv => lhs; whnf)) ?_
                  refine tl_v rfl (o_eqi rfl rfl) ?_
                  refine tl_v rfl (o_pick_t rfl (by conv => lhs; whnf)) ?_
                  refine tl_nil ?_
                  refine q_then_n ?_
                  refine tc_cond rfl (fun h => ?_) (fun h => ?_)
                  · have hpe : pe = 0 := by simp at h; omega
                    subst hpe
                    have hn64 : 64 ≤ n := by have := planT_zero hpl; omega
                    obtain ⟨hL1, hL2⟩ := lineT_len q0 q1 q2 q3 q4
                    refine tc_seq ?_
                    refine tc_reg ?_
                    refine tl_v rfl (o_loadN (vs := ints [q0, q1, q2, q3, q4]) a23 sz23 rfl (by repeat (first | with_reducible exact has_here | with_reducible exact has_pt | apply has_left)) (by show 5 ≤ 5; decide) rfl) ?_
                    refine tl_c rfl (o_call bd21 rfl (LineR_u (q0 := q0) (q1 := q1) (q2 := q2) (q3 := q3) (q4 := q4))) ?_
                    rintro _ _ ⟨a68, c68, rfl, hc68, rfl⟩
                    obtain ⟨L, hL⟩ : ∃ L, L = (lineT q0 q1 q2 q3 q4).1 := ⟨_, rfl⟩
                    rw [← hL] at hL1 hL2 hc68 ⊢
                    refine tl_v rfl (o_move (by conv => lhs; whnf)) ?_
                    refine tl_v rfl (o_extract rfl rfl) ?_
                    refine tl_v rfl (o_extract rfl rfl) ?_
                    refine tl_v rfl (o_assign (by conv => lhs; whnf)) ?_
                    refine tl_v rfl (o_assign (by conv => lhs; whnf)) ?_
                    refine tl_nil ?_
                    refine q_then_n ?_
                    refine tc_seq ?_
                    refine tc_seq ?_
                    refine tc_reg ?_
                    refine tl_v rfl (o_assign (by conv => lhs; whnf)) ?_
                    refine tl_nil ?_
                    refine q_then_n ?_
                    refine tc_block ?_
                    refine tc_loop (fun kk ρ BB => ∃ (i : Nat) (xs : List Nat), (i ≤ L.length) ∧ (xs.length = n) ∧ (∀ x ∈ xs, x < 256) ∧ kk = L.length - i ∧ ρ 10 = .int .i64 (i : Nat) ∧ ρ 1 = .pointer (some ⟨b1, 0, none⟩) ∧ ρ 3 = .slice (some ⟨b21, 0, none⟩) n n ∧ ρ 8 = .slice a68 L.length c68 ∧ BB = A * pt b1 (cl [.int .i64 (n : Int), .int .u8 (fl : Nat), .slice ha hd.length hcp, .bool rt, .int .i64 tn] 121) * Sl 1 (.slice (some ⟨b21, 0, none⟩) n n) n (bys xs) * pt b6 (cl (ints [q0, q1, q2, q3, q4]) 23) * Sl 1 (.slice a68 L.length c68) L.length (bys L)) (m := L.length - (0)) ?_ ?_
                    · exact ⟨0, xs, Nat.zero_le _, hp1, hp2, rfl, rfl, rfl, rfl, rfl, rfl⟩
                    · intro k ρ B hI
                      obtain ⟨i, xs, hp0, hp1, hp2, hkk3, hE10, hE1, hE3, hE8, rfl⟩ := hI
                      refine tc_env (d := 10) hE10 ?_
                      refine tc_env (d := 1) hE1 ?_
                      refine tc_env (d := 3) hE3 ?_
                      refine tc_env (d := 8) hE8 ?_
                      clear hE10 hE1 hE3 hE8
                      refine tc_seq ?_
                      refine tc_seq ?_
                      refine tc_reg ?_
                      refine tl_v rfl (o_move (by conv => lhs; whnf)) ?_
                      refine tl_v rfl (o_move (by conv => lhs; whnf)) ?_
                      refine tl_v rfl (o_len Try.underlying28 rfl) ?_
                      refine tl_v rfl (o_lss rfl rfl) ?_
                      refine tl_nil ?_
                      refine q_then_n ?_
                      refine tc_cond rfl (fun h => ?_) (fun h => ?_)
                      · have hi : i < L.length := by simpa using h
                        refine tc_skip ?_
                        refine q_then_n ?_
                        refine tc_seq ?_
                        refine tc_block ?_
                        refine tc_reg ?_
                        refine tl_v rfl (o_move (by conv => lhs; whnf)) ?_
                        refine tl_v rfl (o_move (by conv => lhs; whnf)) ?_
                        refine tl_v rfl (o_move (by conv => lhs; whnf)) ?_
                        refine tl_v rfl (o_move (by conv => lhs; whnf)) ?_
                        refine tl_v rfl (o_ixP1 Try.underlying28 sz5 rfl rfl (by omega) (nn_rs (by repeat (first | with_reducible exact rs_sl | apply Rs.left)) (fun _ => by rw [bys_length]; omega))) ?_
                        refine tl_v rfl (o_ldP p5 rfl (by repeat (first | with_reducible exact rs_sl | apply Rs.left)) (bys_at hi)) ?_
                        refine tl_v rfl (o_ixP1 Try.underlying28 sz5 rfl rfl (by first | omega | (simp only [bys_length, ints_length, wds_length, bos_length, List.length_append, List.length_take, List.length_drop, List.length_singleton]; omega)) (by repeat (first | exact nn_some | with_reducible exact nn_sl (by decide) | exact nn_rs (by assumption) (fun _ => by first | omega | (simp only [bys_length, ints_length, wds_length, bos_length, List.length_append, List.length_take, List.length_drop, List.length_singleton]; omega)) | apply Nn.left))) ?_
                        refine tl_u rfl (o_stP (ys := bys (xs.set i L[i])) sz5 rfl rfl rfl (by repeat (first | with_reducible exact ct_here | apply ct_left)) (by omega) (bys_set _ _ _)) ?_
                        refine tl_nil ?_
                        refine q_block_n (q_then_n ?_)
                        refine tc_reg ?_
                        refine tl_v rfl (o_move (by conv => lhs; whnf)) ?_
                        refine tl_v rfl (by first | exact o_addI rfl rfl (by omega) | exact o_add rfl rfl) ?_
                        refine tl_v rfl (o_assign (by conv => lhs; whnf)) ?_
                        refine tl_nil ?_
                        refine q_then_n ?_
                        exact ⟨_, by omega, i + 1, xs.set i L[i], by omega, by rw [List.length_set]; exact hp1, set_lt hp2 (hL2 _ (List.getElem_mem hi)), rfl, rfl, rfl, rfl, rfl, rfl⟩
                      · try simp only [decide_eq_true_eq, decide_eq_false_iff_not, Bool.not_eq_true', Bool.not_eq_false', Option.isNone_some, Option.isNone_none, Bool.not_true, Bool.not_false] at h
                        refine tc_exit ?_
                        refine q_then_e (q_then_e (q_block_x (q_then_n ?_)))
                        refine tc_seq ?_
                        refine tc_reg ?_
                        refine tl_v rfl (o_fieldAddr (o := 4) Try.underlying121 rfl rfl sz3 rfl) ?_
                        refine tl_v rfl (by first | exact o_load p3 rfl (by repeat (first | with_reducible exact has_here | with_reducible exact has_pt | apply has_left)) rfl | exact o_loadC p3 rfl (by assumption)) ?_
                        refine tl_v rfl (o_gtr rfl rfl) ?_
                        refine tl_v rfl (o_move (by conv => lhs; whnf)) ?_
                        refine tl_bool (d := 87) rfl (fun h => ?_) (fun h => ?_)
                        · have ht0 : 0 < tn := by simpa using h
                          refine tl_v rfl (o_fieldAddr (o := 4) Try.underlying121 rfl rfl sz3 rfl) ?_
                          refine tl_v rfl (by first | exact o_load p3 rfl (by repeat (first | with_reducible exact has_here | with_reducible exact has_pt | apply has_left)) rfl | exact o_loadC p3 rfl (by assumption)) ?_
                          refine tl_v rfl (o_leq rfl rfl) ?_
                          refine tl_v rfl (o_pick_t rfl (by conv => lhs; whnf)) ?_
                          refine tl_nil ?_
                          refine q_then_n ?_
                          refine tc_cond rfl (fun h => ?_) (fun h => ?_)
                          · obtain ⟨k, hk, hk5⟩ : ∃ k : Nat, tn - 1 = (k : Int) ∧ k < 512 := ⟨(tn - 1).toNat, by omega, by simp at h; omega⟩
                            have hj8 : k / 8 < xs.length := by omega
                            have hx8 := hp2 _ (List.getElem_mem hj8)
                            have h2p : 2 ^ (k % 8) < 256 := by
                              have : 2 ^ (k % 8) ≤ 2 ^ 7 := Nat.pow_le_pow_right (by decide) (by omega)
                              omega
                            have hx9 : xs[k / 8] ^^^ 2 ^ (k % 8) < 256 := Nat.xor_lt_two_pow (n := 8) (by omega) (by omega)
                            refine tc_regh (S := A * pt b1 (cl [.int .i64 (n : Int), .int .u8 (fl : Nat), .slice ha hd.length hcp, .bool rt, .int .i64 tn] 121)) mo (by repeat (first | with_reducible exact dr_refl | apply dr_keep | apply dr_drop)) ?_
                            show TH _ _ _ _ _ 20 #[false, false, false, false, false, false, false, false, false, false, false, false, false, false, false, false, false, false, false, false] _ _
                            refine th_take (i := 0) (listed' := #[true, false, false, false, false, false, false, false, false, false, false, false, false, false, false, false, false, false, false, false]) rfl (by kernel_rfl) (by kernel_rfl) (by kernel_rfl) rfl rfl (o_move (by conv => lhs; whnf)) ?_
                            refine th_take (i := 1) (listed' := #[true, true, false, false, false, false, false, false, false, false, false, false, false, false, false, false, false, false, false, false]) rfl (by kernel_rfl) (by kernel_rfl) (by kernel_rfl) rfl rfl (o_fieldAddr (o := 4) Try.underlying121 rfl rfl sz3 rfl) ?_
                            refine th_take (i := 2) (listed' := #[true, true, true, false, false, false, false, false, false, false, false, false, false, false, false, false, false, false, false, false]) rfl (by kernel_rfl) (by kernel_rfl) (by kernel_rfl) rfl rfl (by first | exact o_load p3 rfl (by repeat (first | with_reducible exact has_here | with_reducible exact has_pt | apply has_left)) rfl | exact o_loadC p3 rfl (by assumption)) ?_
                            refine th_take (i := 3) (listed' := #[true, true, true, true, false, false, false, false, false, false, false, false, false, false, false, false, false, false, false, false]) rfl (by kernel_rfl) (by kernel_rfl) (by kernel_rfl) rfl rfl (by first | exact o_subI rfl rfl (by omega) | exact o_sub rfl rfl) ?_
                            refine th_env (d := 95) (v := .int .i64 (k : Nat)) (congrArg (Value.int .i64) hk) ?_
                            refine th_take (i := 4) (listed' := #[true, true, true, true, true, false, false, false, false, false, false, false, false, false, false, false, false, false, false, false]) rfl (by kernel_rfl) (by kernel_rfl) (by kernel_rfl) rfl rfl (o_quoN (b := 8) rfl rfl (by omega)) ?_
                            refine th_take (i := 5) (listed' := #[true, true, true, true, true, true, false, false, false, false, false, false, false, false, false, false, false, false, false, false]) rfl (by kernel_rfl) (by kernel_rfl) (by kernel_rfl) rfl rfl (o_move (by conv => lhs; whnf)) ?_
                            refine th_take (i := 6) (listed' := #[true, true, true, true, true, true, true, false, false, false, false, false, false, false, false, false, false, false, false, false]) rfl (by kernel_rfl) (by kernel_rfl) (by kernel_rfl) rfl rfl (o_fieldAddr (o := 4) Try.underlying121 rfl rfl sz3 rfl) ?_
                            refine th_take (i := 7) (listed' := #[true, true, true, true, true, true, true, true, false, false, false, false, false, false, false, false, false, false, false, false]) rfl (by kernel_rfl) (by kernel_rfl) (by kernel_rfl) rfl rfl (by first | exact o_load p3 rfl (by repeat (first | with_reducible exact has_here | with_reducible exact has_pt | apply has_left)) rfl | exact o_loadC p3 rfl (by assumption)) ?_
                            refine th_take (i := 8) (listed' := #[true, true, true, true, true, true, true, true, true, false, false, false, false, false, false, false, false, false, false, false]) rfl (by kernel_rfl) (by kernel_rfl) (by kernel_rfl) rfl rfl (by first | exact o_subI rfl rfl (by omega) | exact o_sub rfl rfl) ?_
                            refine th_env (d := 100) (v := .int .i64 (k : Nat)) (congrArg (Value.int .i64) hk) ?_
                            refine th_take (i := 9) (listed' := #[true, true, true, true, true, true, true, true, true, true, false, false, false, false, false, false, false, false, false, false]) rfl (by kernel_rfl) (by kernel_rfl) (by kernel_rfl) rfl rfl (o_quoN (b := 8) rfl rfl (by omega)) ?_
                            refine th_take (i := 10) (listed' := #[true, true, true, true, true, true, true, true, true, true, true, false, false, false, false, false, false, false, false, false]) rfl (by kernel_rfl) (by kernel_rfl) (by kernel_rfl) rfl rfl (o_ixP1 Try.underlying28 sz5 rfl rfl (by first | omega | (simp only [bys_length, ints_length, wds_length, bos_length, List.length_append, List.length_take, List.length_drop, List.length_singleton]; omega)) (by repeat (first | exact nn_some | with_reducible exact nn_sl (by decide) | exact nn_rs (by assumption) (fun _ => by first | omega | (simp only [bys_length, ints_length, wds_length, bos_length, List.length_append, List.length_take, List.length_drop, List.length_singleton]; omega)) | apply Nn.left))) ?_
                            refine th_take (i := 12) (listed' := #[true, true, true, true, true, true, true, true, true, true, true, false, true, false, false, false, false, false, false, false]) rfl (by kernel_rfl) (by kernel_rfl) (by kernel_rfl) rfl rfl (o_fieldAddr (o := 4) Try.underlying121 rfl rfl sz3 rfl) ?_
                            refine th_take (i := 13) (listed' := #[true, true, true, true, true, true, true, true, true, true, true, false, true, true, false, false, false, false, false, false]) rfl (by kernel_rfl) (by kernel_rfl) (by kernel_rfl) rfl rfl (by first | exact o_load p3 rfl (by repeat (first | with_reducible exact has_here | with_reducible exact has_pt | apply has_left)) rfl | exact o_loadC p3 rfl (by assumption)) ?_
                            refine th_take (i := 14) (listed' := #[true, true, true, true, true, true, true, true, true, true, true, false, true, true, true, false, false, false, false, false]) rfl (by kernel_rfl) (by kernel_rfl) (by kernel_rfl) rfl rfl (by first | exact o_subI rfl rfl (by omega) | exact o_sub rfl rfl) ?_
                            refine th_env (d := 106) (v := .int .i64 (k : Nat)) (congrArg (Value.int .i64) hk) ?_
                            refine th_take (i := 15) (listed' := #[true, true, true, true, true, true, true, true, true, true, true, false, true, true, true, true, false, false, false, false]) rfl (by kernel_rfl) (by kernel_rfl) (by kernel_rfl) rfl rfl (o_remN (b := 8) rfl rfl (by omega)) ?_
                            refine th_take (i := 16) (listed' := #[true, true, true, true, true, true, true, true, true, true, true, false, true, true, true, true, true, false, false, false]) rfl (by kernel_rfl) (by kernel_rfl) (by kernel_rfl) rfl rfl (o_shlm (a := 1) (b := k % 8) rfl rfl rfl rfl (by show _ ≤ 8; omega)) ?_
                            refine th_env (d := 108) (v := .int .u8 ((2 ^ (k % 8) : Nat) : Int)) (congrArg (fun z : Nat => Value.int .u8 (z : Int)) (show 1 * 2 ^ (k % 8) % 256 = 2 ^ (k % 8) by omega)) ?_
                            refine th_one (i := 11) (by kernel_rfl) ?_
                            refine oh_v (i := 11) (listed' := #[true, true, true, true, true, true, true, true, true, true, true, true, true, true, true, true, true, false, false, false]) rfl rfl rfl (o_ldP p5 rfl (by repeat (first | with_reducible exact rs_sl | apply Rs.left)) (bys_at hj8)) ?_
                            refine th_take (i := 17) (listed' := #[true, true, true, true, true, true, true, true, true, true, true, true, true, true, true, true, true, true, false, false]) rfl (by kernel_rfl) (by kernel_rfl) (by kernel_rfl) rfl rfl (o_xorN rfl rfl rfl (by show _ < 256; exact hx8) (by show _ < 256; exact h2p)) ?_
                            refine th_take (i := 18) (listed' := #[true, true, true, true, true, true, true, true, true, true, true, true, true, true, true, true, true, true, true, false]) rfl (by kernel_rfl) (by kernel_rfl) (by kernel_rfl) rfl rfl (o_ixP1 Try.underlying28 sz5 rfl rfl (by first | omega | (simp only [bys_length, ints_length, wds_length, bos_length, List.length_append, List.length_take, List.length_drop, List.length_singleton]; omega)) (by repeat (first | exact nn_some | with_reducible exact nn_sl (by decide) | exact nn_rs (by assumption) (fun _ => by first | omega | (simp only [bys_length, ints_length, wds_length, bos_length, List.length_append, List.length_take, List.length_drop, List.length_singleton]; omega)) | apply Nn.left))) ?_
                            refine th_one (i := 19) (by kernel_rfl) ?_
                            refine oh_u (i := 19) (listed' := #[true, true, true, true, true, true, true, true, true, true, true, true, true, true, true, true, true, true, true, true]) rfl rfl rfl (o_stP (ys := bys (xs.set (k / 8) (xs[k / 8] ^^^ 2 ^ (k % 8)))) sz5 rfl rfl rfl (by repeat (first | with_reducible exact ct_here | apply ct_left)) (by omega) (bys_set _ _ _)) (by repeat (first | with_reducible exact dr_refl | apply dr_keep | apply dr_drop)) ?_
                            refine th_done (by kernel_rfl) ?_
                            refine q_then_n ?_
                            refine tc_seq ?_
                            refine tc_reg ?_
                            refine tl_v rfl (o_move (by conv => lhs; whnf)) ?_
                            refine tl_v rfl (o_assign (by conv => lhs; whnf)) ?_
                            refine tl_nil ?_
                            refine q_then_n ?_
                            refine tc_ret ?_
                            first
                            | exact ⟨.slice (some ⟨b21, 0, none⟩) n n, A * Sl 1 (.slice (some ⟨b21, 0, none⟩) n n) n (bys (xs.set (k / 8) (xs[k / 8] ^^^ 2 ^ (k % 8)))), res1 rfl rfl, Dr.sat (by repeat (first | with_reducible exact dr_refl | apply dr_keep | apply dr_drop)), _, _, _, rfl, Nat.le_refl _, by rw [List.length_set]; exact hp1, set_lt hp2 hx9, rfl⟩
                            | exact ⟨.slice (some ⟨b21, 0, none⟩) n n, A * Sl 1 (.slice (some ⟨b21, 0, none⟩) n n) n (bys xs), res1 rfl rfl, Dr.sat (by repeat (first | with_reducible exact dr_refl | apply dr_keep | apply dr_drop)), _, _, _, rfl, Nat.le_refl _, hp1, hp2, rfl⟩
                          · try simp only [decide_eq_true_eq, decide_eq_false_iff_not, Bool.not_eq_true', Bool.not_eq_false', Option.isNone_some, Option.isNone_none, Bool.not_true, Bool.not_false] at h
                            refine tc_skip ?_
                            refine q_then_n ?_
                            refine tc_seq ?_
                            refine tc_reg ?_
                            refine tl_v rfl (o_move (by conv => lhs; whnf)) ?_
                            refine tl_v rfl (o_assign (by conv => lhs; whnf)) ?_
                            refine tl_nil ?_
                            refine q_then_n ?_
                            refine tc_ret ?_
                            first
                            | exact ⟨.slice (some ⟨b21, 0, none⟩) n n, A * Sl 1 (.slice (some ⟨b21, 0, none⟩) n n) n (bys (xs.set (k / 8) (xs[k / 8] ^^^ 2 ^ (k % 8)))), res1 rfl rfl, Dr.sat (by repeat (first | with_reducible exact dr_refl | apply dr_keep | apply dr_drop)), _, _, _, rfl, Nat.le_refl _, by rw [List.length_set]; exact hp1, set_lt hp2 hx9, rfl⟩
                            | exact ⟨.slice (some ⟨b21, 0, none⟩) n n, A * Sl 1 (.slice (some ⟨b21, 0, none⟩) n n) n (bys xs), res1 rfl rfl, Dr.sat (by repeat (first | with_reducible exact dr_refl | apply dr_keep | apply dr_drop)), _, _, _, rfl, Nat.le_refl _, hp1, hp2, rfl⟩
                        · try simp only [decide_eq_true_eq, decide_eq_false_iff_not, Bool.not_eq_true', Bool.not_eq_false', Option.isNone_some, Option.isNone_none, Bool.not_true, Bool.not_false] at h
                          refine tl_skip rfl ?_
                          refine tl_skip rfl ?_
                          refine tl_skip rfl ?_
                          refine tl_v rfl (o_pick_f rfl (by conv => lhs; whnf)) ?_
                          refine tl_nil ?_
                          refine q_then_n ?_
                          refine tc_cond_f rfl ?_
                          refine tc_skip ?_
                          refine q_then_n ?_
                          refine tc_seq ?_
                          refine tc_reg ?_
                          refine tl_v rfl (o_move (by conv => lhs; whnf)) ?_
                          refine tl_v rfl (o_assign (by conv => lhs; whnf)) ?_
                          refine tl_nil ?_
                          refine q_then_n ?_
                          refine tc_ret ?_
                          first
                          | exact ⟨.slice (some ⟨b21, 0, none⟩) n n, A * Sl 1 (.slice (some ⟨b21, 0, none⟩) n n) n (bys (xs.set (k / 8) (xs[k / 8] ^^^ 2 ^ (k % 8)))), res1 rfl rfl, Dr.sat (by repeat (first | with_reducible exact dr_refl | apply dr_keep | apply dr_drop)), _, _, _, rfl, Nat.le_refl _, by rw [List.length_set]; exact hp1, set_lt hp2 hx9, rfl⟩
                          | exact ⟨.slice (some ⟨b21, 0, none⟩) n n, A * Sl 1 (.slice (some ⟨b21, 0, none⟩) n n) n (bys xs), res1 rfl rfl, Dr.sat (by repeat (first | with_reducible exact dr_refl | apply dr_keep | apply dr_drop)), _, _, _, rfl, Nat.le_refl _, hp1, hp2, rfl⟩
                  · try simp only [decide_eq_true_eq, decide_eq_false_iff_not, Bool.not_eq_true', Bool.not_eq_false', Option.isNone_some, Option.isNone_none, Bool.not_true, Bool.not_false] at h
                    refine tc_skip ?_
                    refine q_then_n ?_
                    refine tc_seq ?_
                    refine tc_reg ?_
                    refine tl_v rfl (o_move (by conv => lhs; whnf)) ?_
                    refine tl_v rfl (o_assign (by conv => lhs; whnf)) ?_
                    refine tl_nil ?_
                    refine q_then_n ?_
                    refine tc_ret ?_
                    first
                    | exact ⟨.slice (some ⟨b21, 0, none⟩) n n, A * Sl 1 (.slice (some ⟨b21, 0, none⟩) n n) n (bys (xs.set (k / 8) (xs[k / 8] ^^^ 2 ^ (k % 8)))), res1 rfl rfl, Dr.sat (by repeat (first | with_reducible exact dr_refl | apply dr_keep | apply dr_drop)), _, _, _, rfl, Nat.le_refl _, by rw [List.length_set]; exact hp1, set_lt hp2 hx9, rfl⟩
                    | exact ⟨.slice (some ⟨b21, 0, none⟩) n n, A * Sl 1 (.slice (some ⟨b21, 0, none⟩) n n) n (bys xs), res1 rfl rfl, Dr.sat (by repeat (first | with_reducible exact dr_refl | apply dr_keep | apply dr_drop)), _, _, _, rfl, Nat.le_refl _, hp1, hp2, rfl⟩
                · try simp only [decide_eq_true_eq, decide_eq_false_iff_not, Bool.not_eq_true', Bool.not_eq_false', Option.isNone_some, Option.isNone_none, Bool.not_true, Bool.not_false] at h
                  refine tl_skip rfl ?_
                  refine tl_skip rfl ?_
                  refine tl_v rfl (o_pick_f rfl (by conv => lhs; whnf)) ?_
                  refine tl_nil ?_
                  refine q_then_n ?_
                  refine tc_cond_f rfl ?_
                  refine tc_skip ?_
                  refine q_then_n ?_
                  refine tc_seq ?_
                  refine tc_reg ?_
                  refine tl_v rfl (o_move (by conv => lhs; whnf)) ?_
                  refine tl_v rfl (o_assign (by conv => lhs; whnf)) ?_
                  refine tl_nil ?_
                  refine q_then_n ?_
                  refine tc_ret ?_
                  first
                  | exact ⟨.slice (some ⟨b21, 0, none⟩) n n, A * Sl 1 (.slice (some ⟨b21, 0, none⟩) n n) n (bys (xs.set (k / 8) (xs[k / 8] ^^^ 2 ^ (k % 8)))), res1 rfl rfl, Dr.sat (by repeat (first | with_reducible exact dr_refl | apply dr_keep | apply dr_drop)), _, _, _, rfl, Nat.le_refl _, by rw [List.length_set]; exact hp1, set_lt hp2 hx9, rfl⟩
                  | exact ⟨.slice (some ⟨b21, 0, none⟩) n n, A * Sl 1 (.slice (some ⟨b21, 0, none⟩) n n) n (bys xs), res1 rfl rfl, Dr.sat (by repeat (first | with_reducible exact dr_refl | apply dr_keep | apply dr_drop)), _, _, _, rfl, Nat.le_refl _, hp1, hp2, rfl⟩
            · try simp only [decide_eq_true_eq, decide_eq_false_iff_not, Bool.not_eq_true', Bool.not_eq_false', Option.isNone_some, Option.isNone_none, Bool.not_true, Bool.not_false] at h
              refine tl_skip rfl ?_
              refine tl_skip rfl ?_
              refine tl_skip rfl ?_
              refine tl_skip rfl ?_
              refine tl_skip rfl ?_
              refine tl_v rfl (o_pick_f rfl (by conv => lhs; whnf)) ?_
              refine tl_nil ?_
              refine q_then_n ?_
              refine tc_cond_f rfl ?_
              refine tc_exit ?_
              refine q_then_e (q_then_e (q_block_x (q_then_n ?_)))
              refine tc_seq ?_
              obtain ⟨q0, q1, q2, q3, q4, pe, hpl, hpl4, hpl5⟩ := planT_five (n : Int)
              refine tc_reg ?_
              refine tl_v rfl (o_fieldAddr (o := 0) Try.underlying121 rfl rfl sz3 rfl) ?_
              refine tl_v rfl (by first | exact o_load p3 rfl (by repeat (first | with_reducible exact has_here | with_reducible exact has_pt | apply has_left)) rfl | exact o_loadC p3 rfl (by assumption)) ?_
              refine tl_c rfl (o_call bd19 rfl (PlanR_q hpl)) ?_
              rintro _ _ ⟨rfl, rfl⟩
              refine tl_v rfl (o_move (by conv => lhs; whnf)) ?_
              refine tl_v rfl (o_extract rfl rfl) ?_
              refine tl_v rfl (o_extract rfl rfl) ?_
              refine tl_x rfl (o_alloc z23 rfl) ?_
              rintro _ _ ⟨b6, rfl, rfl⟩
              refine tl_u rfl (o_stUN (l' := ints [q0, q1, q2, q3, q4]) rfl (by repeat (first | with_reducible exact upd_here | with_reducible exact upd_pt | apply upd_left)) sz23 rfl rfl rfl (by show 5 ≤ 5; decide) rfl) ?_
              refine tl_v rfl (o_assign (by conv => lhs; whnf)) ?_
              refine tl_nil ?_
              refine q_then_n ?_
              refine tc_seq ?_
              refine tc_seq ?_
              refine tc_reg ?_
              refine tl_v rfl (o_fieldAddr (o := 3) Try.underlying121 rfl rfl sz4 rfl) ?_
              refine tl_v rfl (by first | exact o_load p4 rfl (by repeat (first | with_reducible exact has_here | with_reducible exact has_pt | apply has_left)) rfl | exact o_loadC p4 rfl (by assumption)) ?_
              refine tl_v rfl (o_move (by conv => lhs; whnf)) ?_
              refine tl_bool (d := 62) rfl (fun h => ?_) (fun h => ?_)
              · try simp only [decide_eq_true_eq, decide_eq_false_iff_not, Bool.not_eq_true', Bool.not_eq_false', Option.isNone_some, Option.isNone_none, Bool.not_true, Bool.not_false] at h
                refine tl_v rfl (o_move (by conv => lhs; whnf)) ?_
                refine tl_v rfl (o_eqi rfl rfl) ?_
                refine tl_v rfl (o_pick_t rfl (by conv => lhs; whnf)) ?_
                refine tl_nil ?_
                refine q_then_n ?_
                refine tc_cond rfl (fun h => ?_) (fun h => ?_)
                · have hpe : pe = 0 := by simp at h; omega
                  subst hpe
                  have hn64 : 64 ≤ n := by have := planT_zero hpl; omega
                  obtain ⟨hL1, hL2⟩ := lineT_len q0 q1 q2 q3 q4
                  refine tc_seq ?_
                  refine tc_reg ?_
                  refine tl_v rfl (o_loadN (vs := ints [q0, q1, q2, q3, q4]) a23 sz23 rfl (by repeat (first | with_reducible exact has_here | with_reducible exact has_pt | apply has_left)) (by show 5 ≤ 5; decide) rfl) ?_
                  refine tl_c rfl (o_call bd21 rfl (LineR_u (q0 := q0) (q1 := q1) (q2 := q2) (q3 := q3) (q4 := q4))) ?_
                  rintro _ _ ⟨a68, c68, rfl, hc68, rfl⟩
                  obtain ⟨L, hL⟩ : ∃ L, L = (lineT q0 q1 q2 q3 q4).1 := ⟨_, rfl⟩
                  rw [← hL] at hL1 hL2 hc68 ⊢
                  refine tl_v rfl (o_move (by conv => lhs; whnf)) ?_
                  refine tl_v rfl (o_extract rfl rfl) ?_
                  refine tl_v rfl (o_extract rfl rfl) ?_
                  refine tl_v rfl (o_assign (by conv => lhs; whnf)) ?_
                  refine tl_v rfl (o_assign (by conv => lhs; whnf)) ?_
                  refine tl_nil ?_
                  refine q_then_n ?_
                  refine tc_seq ?_
                  refine tc_seq ?_
                  refine tc_reg ?_
                  refine tl_v rfl (o_assign (by conv => lhs; whnf)) ?_
                  refine tl_nil ?_
                  refine q_then_n ?_
                  refine tc_block ?_
                  refine tc_loop (fun kk ρ BB => ∃ (i : Nat) (xs : List Nat), (i ≤ L.length) ∧ (xs.length = n) ∧ (∀ x ∈ xs, x < 256) ∧ kk = L.length - i ∧ ρ 10 = .int .i64 (i : Nat) ∧ ρ 1 = .pointer (some ⟨b1, 0, none⟩) ∧ ρ 3 = .slice (some ⟨b21, 0, none⟩) n n ∧ ρ 8 = .slice a68 L.length c68 ∧ BB = A * pt b1 (cl [.int .i64 (n : Int), .int .u8 (fl : Nat), .slice ha hd.length hcp, .bool rt, .int .i64 tn] 121) * Sl 1 (.slice (some ⟨b21, 0, none⟩) n n) n (bys xs) * pt b6 (cl (ints [q0, q1, q2, q3, q4]) 23) * Sl 1 (.slice a68 L.length c68) L.length (bys L)) (m := L.length - (0)) ?_ ?_
                  · exact ⟨0, xs, Nat.zero_le _, hp1, hp2, rfl, rfl, rfl, rfl, rfl, rfl⟩
                  · intro k ρ B hI
                    obtain ⟨i, xs, hp0, hp1, hp2, hkk3, hE10, hE1, hE3, hE8, rfl⟩ := hI
                    refine tc_env (d := 10) hE10 ?_
                    refine tc_env (d := 1) hE1 ?_
                    refine tc_env (d := 3) hE3 ?_
                    refine tc_env (d := 8) hE8 ?_
                    clear hE10 hE1 hE3 hE8
                    refine tc_seq ?_
                    refine tc_seq ?_
                    refine tc_reg ?_
                    refine tl_v rfl (o_move (by conv => lhs; whnf)) ?_
                    refine tl_v rfl (o_move (by conv => lhs; whnf)) ?_
                    refine tl_v rfl (o_len Try.underlying28 rfl) ?_
                    refine tl_v rfl (o_lss rfl rfl) ?_
                    refine tl_nil ?_
                    refine q_then_n ?_
                    refine tc_cond rfl (fun h => ?_) (fun h => ?_)
                    · have hi : i < L.length := by simpa using h
                      refine tc_skip ?_
                      refine q_then_n ?_
                      refine tc_seq ?_
                      refine tc_block ?_
                      refine tc_reg ?_
                      refine tl_v rfl (o_move (by conv => lhs; whnf)) ?_
                      refine tl_v rfl (o_move (by conv => lhs; whnf)) ?_
                      refine tl_v rfl (o_move (by conv => lhs; whnf)) ?_
                      refine tl_v rfl (o_move (by conv => lhs; whnf)) ?_
                      refine tl_v rfl (o_ixP1 Try.underlying28 sz5 rfl rfl (by omega) (nn_rs (by repeat (first | with_reducible exact rs_sl | apply Rs.left)) (fun _ => by rw [bys_length]; omega))) ?_
                      refine tl_v rfl (o_ldP p5 rfl (by repeat (first | with_reducible exact rs_sl | apply Rs.left)) (bys_at hi)) ?_
                      refine tl_v rfl (o_ixP1 Try.underlying28 sz5 rfl rfl (by first | omega | (simp only [bys_length, ints_length, wds_length, bos_length, List.length_append, List.length_take, List.length_drop, List.length_singleton]; omega)) (by repeat (first | exact nn_some | with_reducible exact nn_sl (by decide) | exact nn_rs (by assumption) (fun _ => by first | omega | (simp only [bys_length, ints_length, wds_length, bos_length, List.length_append, List.length_take, List.length_drop, List.length_singleton]; omega)) | apply Nn.left))) ?_
                      refine tl_u rfl (o_stP (ys := bys (xs.set i L[i])) sz5 rfl rfl rfl (by repeat (first | with_reducible exact ct_here | apply ct_left)) (by omega) (bys_set _ _ _)) ?_
                      refine tl_nil ?_
                      refine q_block_n (q_then_n ?_)
                      refine tc_reg ?_
                      refine tl_v rfl (o_move (by conv => lhs; whnf)) ?_
                      refine tl_v rfl (by first | exact o_addI rfl rfl (by omega) | exact o_add rfl rfl) ?_
                      refine tl_v rfl (o_assign (by conv => lhs; whnf)) ?_
                      refine tl_nil ?_
                      refine q_then_n ?_
                      exact ⟨_, by omega, i + 1, xs.set i L[i], by omega, by rw [List.length_set]; exact hp1, set_lt hp2 (hL2 _ (List.getElem_mem hi)), rfl, rfl, rfl, rfl, rfl, rfl⟩
                    · try simp only [decide_eq_true_eq, decide_eq_false_iff_not, Bool.not_eq_true', Bool.not_eq_false', Option.isNone_some, Option.isNone_none, Bool.not_true, Bool.not_false] at h
                      refine tc_exit ?_
                      refine q_then_e (q_then_e (q_block_x (q_then_n ?_)))
                      refine tc_seq ?_
                      refine tc_reg ?_
                      refine tl_v rfl (o_fieldAddr (o := 4) Try.underlying121 rfl rfl sz3 rfl) ?_
                      refine tl_v rfl (by first | exact o_load p3 rfl (by repeat (first | with_reducible exact has_here | with_reducible exact has_pt | apply has_left)) rfl | exact o_loadC p3 rfl (by assumption)) ?_
                      refine tl_v rfl (o_gtr rfl rfl) ?_
                      refine tl_v rfl (o_move (by conv => lhs; whnf)) ?_
                      refine tl_bool (d := 87) rfl (fun h => ?_) (fun h => ?_)
                      · have ht0 : 0 < tn := by simpa using h
                        refine tl_v rfl (o_fieldAddr (o := 4) Try.underlying121 rfl rfl sz3 rfl) ?_
                        refine tl_v rfl (by first | exact o_load p3 rfl (by repeat (first | with_reducible exact has_here | with_reducible exact has_pt | apply has_left)) rfl | exact o_loadC p3 rfl (by assumption)) ?_
                        refine tl_v rfl (o_leq rfl rfl) ?_
                        refine tl_v rfl (o_pick_t rfl (by conv => lhs; whnf)) ?_
                        refine tl_nil ?_
                        refine q_then_n ?_
                        refine tc_cond rfl (fun h => ?_) (fun h => ?_)
                        · obtain ⟨k, hk, hk5⟩ : ∃ k : Nat, tn - 1 = (k : Int) ∧ k < 512 := ⟨(tn - 1).toNat, by omega, by simp at h; omega⟩
                          have hj8 : k / 8 < xs.length := by omega
                          have hx8 := hp2 _ (List.getElem_mem hj8)
                          have h2p : 2 ^ (k % 8) < 256 := by
                            have : 2 ^ (k % 8) ≤ 2 ^ 7 := Nat.pow_le_pow_right (by decide) (by omega)
                            omega
                          have hx9 : xs[k / 8] ^^^ 2 ^ (k % 8) < 256 := Nat.xor_lt_two_pow (n := 8) (by omega) (by omega)
                          refine tc_regh (S := A * pt b1 (cl [.int .i64 (n : Int), .int .u8 (fl : Nat), .slice ha hd.length hcp, .bool rt, .int .i64 tn] 121)) mo (by repeat (first | with_reducible exact dr_refl | apply dr_keep | apply dr_drop)) ?_
                          show TH _ _ _ _ _ 20 #[false, false, false, false, false, false, false, false, false, false, false, false, false, false, false, false, false, false, false, false] _ _
                          refine th_take (i := 0) (listed' := #[true, false, false, false, false, false, false, false, false, false, false, false, false, false, false, false, false, false, false, false]) rfl (by kernel_rfl) (by kernel_rfl) (by kernel_rfl) rfl rfl (o_move (by conv => lhs; whnf)) ?_
                          refine th_take (i := 1) (listed' := #[true, true, false, false, false, false, false, false, false, false, false, false, false, false, false, false, false, false, false, false]) rfl (by kernel_rfl) (by kernel_rfl) (by kernel_rfl) rfl rfl (o_fieldAddr (o := 4) Try.underlying121 rfl rfl sz3 rfl) ?_
                          refine th_take (i := 2) (listed' := #[true, true, true, false, false, false, false, false, false, false, false, false, false, false, false, false, false, false, false, false]) rfl (by kernel_rfl) (by kernel_rfl) (by kernel_rfl) rfl rfl (by first | exact o_load p3 rfl (by repeat (first | with_reducible exact has_here | with_reducible exact has_pt | apply has_left)) rfl | exact o_loadC p3 rfl (by assumption)) ?_
                          refine th_take (i := 3) (listed' := #[true, true, true, true, false, false, false, false, false, false, false, false, false, false, false, false, false, false, false, false]) rfl (by kernel_rfl) (by kernel_rfl) (by kernel_rfl) rfl rfl (by first | exact o_subI rfl rfl (by omega) | exact o_sub rfl rfl) ?_
                          refine th_env (d := 95) (v := .int .i64 (k : Nat)) (congrArg (Value.int .i64) hk) ?_
                          refine th_take (i := 4) (listed' := #[true, true, true, true, true, false, false, false, false, false, false, false, false, false, false, false, false, false, false, false]) rfl (by kernel_rfl) (by kernel_rfl) (by kernel_rfl) rfl rfl (o_quoN (b := 8) rfl rfl (by omega)) ?_
                          refine th_take (i := 5) (listed' := #[true, true, true, true, true, true, false, false, false, false, false, false, false, false, false, false, false, false, false, false]) rfl (by kernel_rfl) (by kernel_rfl) (by kernel_rfl) rfl rfl (o_move (by conv => lhs; whnf)) ?_
                          refine th_take (i := 6) (listed' := #[true, true, true, true, true, true, true, false, false, false, false, false, false, false, false, false, false, false, false, false]) rfl (by kernel_rfl) (by kernel_rfl) (by kernel_rfl) rfl rfl (o_fieldAddr (o := 4) Try.underlying121 rfl rfl sz3 rfl) ?_
                          refine th_take (i := 7) (listed' := #[true, true, true, true, true, true, true, true, false, false, false, false, false, false, false, false, false, false, false, false]) rfl (by kernel_rfl) (by kernel_rfl) (by kernel_rfl) rfl rfl (by first | exact o_load p3 rfl (by repeat (first | with_reducible exact has_here | with_reducible exact has_pt | apply has_left)) rfl | exact o_loadC p3 rfl (by assumption)) ?_
                          refine th_take (i := 8) (listed' := #[true, true, true, true, true, true, true, true, true, false, false, false, false, false, false, false, false, false, false, false]) rfl (by kernel_rfl) (by kernel_rfl) (by kernel_rfl) rfl rfl (by first | exact o_subI rfl rfl (by omega) | exact o_sub rfl rfl) ?_
                          refine th_env (d := 100) (v := .int .i64 (k : Nat)) (congrArg (Value.int .i64) hk) ?_
                          refine th_take (i := 9) (listed' := #[true, true, true, true, true, true, true, true, true, true, false, false, false, false, false, false, false, false, false, false]) rfl (by kernel_rfl) (by kernel_rfl) (by kernel_rfl) rfl rfl (o_quoN (b := 8) rfl rfl (by omega)) ?_
                          refine th_take (i := 10) (listed' := #[true, true, true, true, true, true, true, true, true, true, true, false, false, false, false, false, false, false, false, false]) rfl (by kernel_rfl) (by kernel_rfl) (by kernel_rfl) rfl rfl (o_ixP1 Try.underlying28 sz5 rfl rfl (by first | omega | (simp only [bys_length, ints_length, wds_length, bos_length, List.length_append, List.length_take, List.length_drop, List.length_singleton]; omega)) (by repeat (first | exact nn_some | with_reducible exact nn_sl (by decide) | exact nn_rs (by assumption) (fun _ => by first | omega | (simp only [bys_length, ints_length, wds_length, bos_length, List.length_append, List.length_take, List.length_drop, List.length_singleton]; omega)) | apply Nn.left))) ?_
                          refine th_take (i := 12) (listed' := #[true, true, true, true, true, true, true, true, true, true, true, false, true, false, false, false, false, false, false, false]) rfl (by kernel_rfl) (by kernel_rfl) (by kernel_rfl) rfl rfl (o_fieldAddr (o := 4) Try.underlying121 rfl rfl sz3 rfl) ?_
                          refine th_take (i := 13) (listed' := #[true, true, true, true, true, true, true, true, true, true, true, false, true, true, false, false, false, false, false, false]) rfl (by kernel_rfl) (by kernel_rfl) (by kernel_rfl) rfl rfl (by first | exact o_load p3 rfl (by repeat (first | with_reducible exact has_here | with_reducible exact has_pt | apply has_left)) rfl | exact o_loadC p3 rfl (by assumption)) ?_
                          refine th_take (i := 14) (listed' := #[true, true, true, true, true, true, true, true, true, true, true, false, true, true, true, false, false, false, false, false]) rfl (by kernel_rfl) (by kernel_rfl) (by kernel_rfl) rfl rfl (by first | exact o_subI rfl rfl (by omega) | exact o_sub rfl rfl) ?_
                          refine th_env (d := 106) (v := .int .i64 (k : Nat)) (congrArg (Value.int .i64) hk) ?_
                          refine th_take (i := 15) (listed' := #[true, true, true, true, true, true, true, true, true, true, true, false, true, true, true, true, false, false, false, false]) rfl (by kernel_rfl) (by kernel_rfl) (by kernel_rfl) rfl rfl (o_remN (b := 8) rfl rfl (by omega)) ?_
                          refine th_take (i := 16) (listed' := #[true, true, true, true, true, true, true, true, true, true, true, false, true, true, true, true, true, false, false, false]) rfl (by kernel_rfl) (by kernel_rfl) (by kernel_rfl) rfl rfl (o_shlm (a := 1) (b := k % 8) rfl rfl rfl rfl (by show _ ≤ 8; omega)) ?_
                          refine th_env (d := 108) (v := .int .u8 ((2 ^ (k % 8) : Nat) : Int)) (congrArg (fun z : Nat => Value.int .u8 (z : Int)) (show 1 * 2 ^ (k % 8) % 256 = 2 ^ (k % 8) by omega)) ?_
                          refine th_one (i := 11) (by kernel_rfl) ?_
                          refine oh_v (i := 11) (listed' := #[true, true, true, true, true, true, true, true, true, true, true, true, true, true, true, true, true, false, false, false]) rfl rfl rfl (o_ldP p5 rfl (by repeat (first | with_reducible exact rs_sl | apply Rs.left)) (bys_at hj8)) ?_
                          refine th_take (i := 17) (listed' := #[true, true, true, true, true, true, true, true, true, true, true, true, true, true, true, true, true, true, false, false]) rfl (by kernel_rfl) (by kernel_rfl) (by kernel_rfl) rfl rfl (o_xorN rfl rfl rfl (by show _ < 256; exact hx8) (by show _ < 256; exact h2p)) ?_
                          refine th_take (i := 18) (listed' := #[true, true, true, true, true, true, true, true, true, true, true, true, true, true, true, true, true, true, true, false]) rfl (by kernel_rfl) (by kernel_rfl) (by kernel_rfl) rfl rfl (o_ixP1 Try.underlying28 sz5 rfl rfl (by first | omega | (simp only [bys_length, ints_length, wds_length, bos_length, List.length_append, List.length_take, List.length_drop, List.length_singleton]; omega)) (by repeat (first | exact nn_some | with_reducible exact nn_sl (by decide) | exact nn_rs (by assumption) (fun _ => by first | omega | (simp only [bys_length, ints_length, wds_length, bos_length, List.length_append, List.length_take, List.length_drop, List.length_singleton]; omega)) | apply Nn.left))) ?_
                          refine th_one (i := 19) (by kernel_rfl) ?_
                          refine oh_u (i := 19) (listed' := #[true, true, true, true, true, true, true, true, true, true, true, true, true, true, true, true, true, true, true, true]) rfl rfl rfl (o_stP (ys := bys (xs.set (k / 8) (xs[k / 8] ^^^ 2 ^ (k % 8)))) sz5 rfl rfl rfl (by repeat (first | with_reducible exact ct_here | apply ct_left)) (by omega) (bys_set _ _ _)) (by repeat (first | with_reducible exact dr_refl | apply dr_keep | apply dr_drop)) ?_
                          refine th_done (by kernel_rfl) ?_
                          refine q_then_n ?_
                          refine tc_seq ?_
                          refine tc_reg ?_
                          refine tl_v rfl (o_move (by conv => lhs; whnf)) ?_
                          refine tl_v rfl (o_assign (by conv => lhs; whnf)) ?_
                          refine tl_nil ?_
                          refine q_then_n ?_
                          refine tc_ret ?_
                          first
                          | exact ⟨.slice (some ⟨b21, 0, none⟩) n n, A * Sl 1 (.slice (some ⟨b21, 0, none⟩) n n) n (bys (xs.set (k / 8) (xs[k / 8] ^^^ 2 ^ (k % 8)))), res1 rfl rfl, Dr.sat (by repeat (first | with_reducible exact dr_refl | apply dr_keep | apply dr_drop)), _, _, _, rfl, Nat.le_refl _, by rw [List.length_set]; exact hp1, set_lt hp2 hx9, rfl⟩
                          | exact ⟨.slice (some ⟨b21, 0, none⟩) n n, A * Sl 1 (.slice (some ⟨b21, 0, none⟩) n n) n (bys xs), res1 rfl rfl, Dr.sat (by repeat (first | with_reducible exact dr_refl | apply dr_keep | apply dr_drop)), _, _, _, rfl, Nat.le_refl _, hp1, hp2, rfl⟩
                        · try simp only [decide_eq_true_eq, decide_eq_false_iff_not, Bool.not_eq_true', Bool.not_eq_false', Option.isNone_some, Option.isNone_none, Bool.not_true, Bool.not_false] at h
                          refine tc_skip ?_
                          refine q_then_n ?_
                          refine tc_seq ?_
                          refine tc_reg ?_
                          refine tl_v rfl (o_move (by conv => lhs; whnf)) ?_
                          refine tl_v rfl (o_assign (by conv => lhs; whnf)) ?_
                          refine tl_nil ?_
                          refine q_then_n ?_
                          refine tc_ret ?_
                          first
                          | exact ⟨.slice (some ⟨b21, 0, none⟩) n n, A * Sl 1 (.slice (some ⟨b21, 0, none⟩) n n) n (bys (xs.set (k / 8) (xs[k / 8] ^^^ 2 ^ (k % 8)))), res1 rfl rfl, Dr.sat (by repeat (first | with_reducible exact dr_refl | apply dr_keep | apply dr_drop)), _, _, _, rfl, Nat.le_refl _, by rw [List.length_set]; exact hp1, set_lt hp2 hx9, rfl⟩
                          | exact ⟨.slice (some ⟨b21, 0, none⟩) n n, A * Sl 1 (.slice (some ⟨b21, 0, none⟩) n n) n (bys xs), res1 rfl rfl, Dr.sat (by repeat (first | with_reducible exact dr_refl | apply dr_keep | apply dr_drop)), _, _, _, rfl, Nat.le_refl _, hp1, hp2, rfl⟩
                      · try simp only [decide_eq_true_eq, decide_eq_false_iff_not, Bool.not_eq_true', Bool.not_eq_false', Option.isNone_some, Option.isNone_none, Bool.not_true, Bool.not_false] at h
                        refine tl_skip rfl ?_
                        refine tl_skip rfl ?_
                        refine tl_skip rfl ?_
                        refine tl_v rfl (o_pick_f rfl (by conv => lhs; whnf)) ?_
                        refine tl_nil ?_
                        refine q_then_n ?_
                        refine tc_cond_f rfl ?_
                        refine tc_skip ?_
                        refine q_then_n ?_
                        refine tc_seq ?_
                        refine tc_reg ?_
                        refine tl_v rfl (o_move (by conv => lhs; whnf)) ?_
                        refine tl_v rfl (o_assign (by conv => lhs; whnf)) ?_
                        refine tl_nil ?_
                        refine q_then_n ?_
                        refine tc_ret ?_
                        first
                        | exact ⟨.slice (some ⟨b21, 0, none⟩) n n, A * Sl 1 (.slice (some ⟨b21, 0, none⟩) n n) n (bys (xs.set (k / 8) (xs[k / 8] ^^^ 2 ^ (k % 8)))), res1 rfl rfl, Dr.sat (by repeat (first | with_reducible exact dr_refl | apply dr_keep | apply dr_drop)), _, _, _, rfl, Nat.le_refl _, by rw [List.length_set]; exact hp1, set_lt hp2 hx9, rfl⟩
                        | exact ⟨.slice (some ⟨b21, 0, none⟩) n n, A * Sl 1 (.slice (some ⟨b21, 0, none⟩) n n) n (bys xs), res1 rfl rfl, Dr.sat (by repeat (first | with_reducible exact dr_refl | apply dr_keep | apply dr_drop)), _, _, _, rfl, Nat.le_refl _, hp1, hp2, rfl⟩
                · try simp only [decide_eq_true_eq, decide_eq_false_iff_not, Bool.not_eq_true', Bool.not_eq_false', Option.isNone_some, Option.isNone_none, Bool.not_true, Bool.not_false] at h
                  refine tc_skip ?_
                  refine q_then_n ?_
                  refine tc_seq ?_
                  refine tc_reg ?_
                  refine tl_v rfl (o_move (by conv => lhs; whnf)) ?_
                  refine tl_v rfl (o_assign (by conv => lhs; whnf)) ?_
                  refine tl_nil ?_
                  refine q_then_n ?_
                  refine tc_ret ?_
                  first
                  | exact ⟨.slice (some ⟨b21, 0, none⟩) n n, A * Sl 1 (.slice (some ⟨b21, 0, none⟩) n n) n (bys (xs.set (k / 8) (xs[k / 8] ^^^ 2 ^ (k % 8)))), res1 rfl rfl, Dr.sat (by repeat (first | with_reducible exact dr_refl | apply dr_keep | apply dr_drop)), _, _, _, rfl, Nat.le_refl _, by rw [List.length_set]; exact hp1, set_lt hp2 hx9, rfl⟩
                  | exact ⟨.slice (some ⟨b21, 0, none⟩) n n, A * Sl 1 (.slice (some ⟨b21, 0, none⟩) n n) n (bys xs), res1 rfl rfl, Dr.sat (by repeat (first | with_reducible exact dr_refl | apply dr_keep | apply dr_drop)), _, _, _, rfl, Nat.le_refl _, hp1, hp2, rfl⟩
              · try simp only [decide_eq_true_eq, decide_eq_false_iff_not, Bool.not_eq_true', Bool.not_eq_false', Option.isNone_some, Option.isNone_none, Bool.not_true, Bool.not_false] at h
                refine tl_skip rfl ?_
                refine tl_skip rfl ?_
                refine tl_v rfl (o_pick_f rfl (by conv => lhs; whnf)) ?_
                refine tl_nil ?_
                refine q_then_n ?_
                refine tc_cond_f rfl ?_
                refine tc_skip ?_
                refine q_then_n ?_
                refine tc_seq ?_
                refine tc_reg ?_
                refine tl_v rfl (o_move (by conv => lhs; whnf)) ?_
                refine tl_v rfl (o_assign (by conv => lhs; whnf)) ?_
                refine tl_nil ?_
                refine q_then_n ?_
                refine tc_ret ?_
                first
                | exact ⟨.slice (some ⟨b21, 0, none⟩) n n, A * Sl 1 (.slice (some ⟨b21, 0, none⟩) n n) n (bys (xs.set (k / 8) (xs[k / 8] ^^^ 2 ^ (k % 8)))), res1 rfl rfl, Dr.sat (by repeat (first | with_reducible exact dr_refl | apply dr_keep | apply dr_drop)), _, _, _, rfl, Nat.le_refl _, by rw [List.length_set]; exact hp1, set_lt hp2 hx9, rfl⟩
                | exact ⟨.slice (some ⟨b21, 0, none⟩) n n, A * Sl 1 (.slice (some ⟨b21, 0, none⟩) n n) n (bys xs), res1 rfl rfl, Dr.sat (by repeat (first | with_reducible exact dr_refl | apply dr_keep | apply dr_drop)), _, _, _, rfl, Nat.le_refl _, hp1, hp2, rfl⟩
end Go.Vl

set_option linter.unusedVariables false
set_option linter.unusedSimpArgs false
namespace Go.Vl
open Go Go.Proofs
def zz : List Nat := List.replicate 64 0
def LostI (n : Nat) (xs I : List Nat) : Prop := I.length = n ∧ I.drop 192 = xs.drop 192 ∧ (I.take 192 = xs.take 192 ∨ I.take 64 ≠ sbB [n, 128, 32768, 32896, (n - 32896) / 256, 0] ∨ (I.drop 64).take 128 = List.replicate 128 0)
def DoneI (n : Nat) (xs I : List Nat) : Prop := I.length = n ∧ I.drop 192 = xs.drop 192 ∧ I.take 64 = sbB [n, 128, 32768, 32896, (n - 32896) / 256, 0] ∧ (I.drop 64).take 128 = List.replicate 128 0
end Go.Vl

set_option linter.unusedVariables false
set_option linter.unusedSimpArgs false
namespace Go.Vl
open Go Go.Proofs
attribute [local irreducible] crk crL crc Sl pt ro mbs sbB planT Dev imgS lineT fromS
theorem Root_5 {A R : SP} {C : SP → SP} {d : Nat} {s : DevS} {w : Nat} {e : Int} (hc : Ct A (Dev d s) R C) (hr : rootA s = (w, e)) : Fn Try.prog 67 #[.pointer (some ⟨d, 0, none⟩)] A (fun r B => r = .tuple #[.int .u64 ((w : Nat) : Int), .int .i64 e] ∧ A = B) := by
  have := Root_c hc; rw [hr] at this; exact this
end Go.Vl

set_option linter.unusedVariables false
set_option linter.unusedSimpArgs false
namespace Go.Vl
open Go Go.Proofs
def PSteps (A : SP) (cs : List Value) (ss : List StepC) : Prop := ∃ a cap, cs = [.slice a ss.length cap] ∧ ss.length ≤ cap ∧ ss.length ≤ 1353245080300 ∧ Rs A a (scs ss) ∧ ∀ t ∈ ss, t.v < 18446744073709551616
end Go.Vl

set_option linter.unusedVariables false
set_option linter.unusedSimpArgs false
namespace Go.Vl
open Go Go.Proofs
structure ImC where
  sz : Int
  fl : Int
  ha : Option Addr
  hcp : Nat
  hd : List Nat
  rt : Bool
  tn : Int
def ImC.cells (t : ImC) : List Value := [.int .i64 t.sz, .int .u8 t.fl, .slice t.ha t.hd.length t.hcp, .bool t.rt, .int .i64 t.tn]
def PImg (A : SP) (cs : List Value) (t : ImC) : Prop := cs = t.cells ∧ Rs A t.ha (bys t.hd) ∧ (∀ x ∈ t.hd, x < 256) ∧ t.hd.length ≤ t.hcp ∧ t.hd.length ≤ 140737488351232 ∧ (0 ≤ t.fl ∧ t.fl < 256) ∧ (-9223372036854775808 ≤ t.tn ∧ t.tn ≤ 9223372036854775807) ∧ (-9223372036854775808 ≤ t.sz ∧ t.sz ≤ 9223372036854775807)
set_option maxRecDepth 20000 in
theorem rdb_img (W : World) : Rdb Try.prog W 121 (PImg (old W)) := fun H enc sp hd fu cs d pl h hw => by
  obtain ⟨hl, hf⟩ := rdb_fields Try.underlying121 h hw
  have hc : Try.prog.cellsOf 121 = 5 := by kernel_rfl
  have hci : Try.prog.cellsOf 3 = 1 := by kernel_rfl
  have hcu : Try.prog.cellsOf 5 = 1 := by kernel_rfl
  have hcb : Try.prog.cellsOf 28 = 1 := by kernel_rfl
  have hco : Try.prog.cellsOf 4 = 1 := by kernel_rfl
  rw [hc] at hl
  obtain ⟨sz, e0, g0⟩ := hf 0 _ rfl (rdb_int Try.underlying3)
  obtain ⟨fl, e1, g1⟩ := hf 1 _ rfl (rdb_int Try.underlying5)
  obtain ⟨hd, a, c, e2, k1, k2, k3, k4⟩ := hf 2 _ rfl (rdb_bys Try.underlying28 Try.underlying5 (by kernel_rfl) (by kernel_rfl))
  obtain ⟨rt, e3⟩ := hf 3 _ rfl (rdb_bool Try.underlying4)
  obtain ⟨tn, e4, g4⟩ := hf 4 _ rfl (rdb_int Try.underlying3)
  have b1 := Go.bounds_u8 g1
  match cs, hl with
  | [c0, c1, c2, c3, c4], _ =>
    simp [hci] at e0 e4
    simp [hcu] at e1
    simp [hcb] at e2
    simp [hco, PBool] at e3
    subst e0 e1 e2 e3 e4
    exact ⟨⟨sz, fl, a, c, hd, rt, tn⟩, rfl, k3, k4, k1, k2, ⟨b1.1, by simp only []; omega⟩, i64_wf g4, i64_wf g0⟩
theorem img_cells {t : ImC} (h : 0 ≤ t.fl) : t.cells = [.int .i64 t.sz, .int .u8 ((t.fl.toNat : Nat) : Int), .slice t.ha t.hd.length t.hcp, .bool t.rt, .int .i64 t.tn] := by unfold ImC.cells; rw [Int.toNat_of_nonneg h]
end Go.Vl

set_option linter.unusedVariables false
set_option linter.unusedSimpArgs false
namespace Go.Vl
open Go Go.Proofs
/-- A line: where its contents' list lies, where each content lies and its words; the mark. -/
structure RL where
  v : Value
  rows : List (Value × List Nat)
  mark : Int
def RL.l (x : RL) : LineS := ⟨x.rows.map Prod.snd, x.mark⟩
def rcl (x : RL) : List Value := [x.v, .int .i64 x.mark]
theorem rcl_len (l : List RL) : ∀ a ∈ l, (rcl a).length = 2 := fun _ _ => rfl
def rowR (p : Value × List Nat) : SP := SlR 1 p.1 64 (bys (lb p.2))
def rlR (x : RL) : SP := Sl 1 x.v x.rows.length (x.rows.map Prod.fst) * Bs rowR x.rows
def rdcs (lv : Value) (s : DevS) (av : Value) : List Value := [.int .i64 ((s.ls.length * 64 : Nat) : Int), lv, .int .i64 s.ops, av, .int .i64 s.cnt, .bool s.off]
/-- The device, its parts told. -/
def RDevC (r : Nat) (lv : Value) (rls : List RL) (av : Value) (kvs : List Value) (s : DevS) : SP :=
  pt r (cl (rdcs lv s av) 91) * Sl 2 lv s.ls.length (rls.flatMap rcl) * Bs rlR rls * ArmsR av kvs s.arms
/-- The device. -/
def RDev (r : Nat) (s : DevS) : SP := fun h => WfD s ∧ ∃ lv rls av kvs, rls.map RL.l = s.ls ∧ kvs.length = s.arms.length ∧ RDevC r lv rls av kvs s h
theorem rdev_iff {r : Nat} {s : DevS} {R : SP} {g : Gh} {w : World} : sat g w (R * RDev r s) ↔ WfD s ∧ ∃ lv rls av kvs, rls.map RL.l = s.ls ∧ kvs.length = s.arms.length ∧ sat g w (R * RDevC r lv rls av kvs s) := by
  constructor
  · intro hs
    obtain ⟨_, ⟨x, y, hd, rfl, ha, hw, lv, rls, av, kvs, h1, h2, h3⟩, hx⟩ := hs.hp
    exact ⟨hw, lv, rls, av, kvs, h1, h2, hs.os, hs.tape, hs.out, _, ⟨x, y, hd, rfl, ha, h3⟩, hx⟩
  · rintro ⟨hw, lv, rls, av, kvs, h1, h2, hs⟩
    exact hs.mono fun h ⟨x, y, hd, e, ha, hb⟩ => ⟨x, y, hd, e, ha, hw, lv, rls, av, kvs, h1, h2, hb⟩
section
variable {P : Program} {n : Nat} {Q : Post} {ρ : Env} {r : Nat} {s : DevS} {R : SP}
theorem tc_rdev {c : Code} (h : WfD s → ∀ lv rls av kvs, rls.map RL.l = s.ls → kvs.length = s.arms.length → TC P n c Q ρ (R * RDevC r lv rls av kvs s)) : TC P n c Q ρ (R * RDev r s) := fun g a w ha hs => by
  obtain ⟨hw, lv, rls, av, kvs, h1, h2, hs'⟩ := rdev_iff.1 hs
  exact h hw lv rls av kvs h1 h2 g a w ha hs'
end
theorem rdev_back {r : Nat} {s : DevS} {R : SP} {lv av : Value} {rls : List RL} {kvs : List Value} (hw : WfD s) (h1 : rls.map RL.l = s.ls) (h2 : kvs.length = s.arms.length) : ∀ g w, sat g w (R * RDevC r lv rls av kvs s) → sat g w (R * RDev r s) :=
  fun g w hs => rdev_iff.2 ⟨hw, lv, rls, av, kvs, h1, h2, hs⟩
section
variable {r : Nat} {s : DevS} {R F : SP} {lv av : Value} {rls : List RL} {kvs : List Value}
theorem rdevC_r : Has (F * RDevC r lv rls av kvs s) r (cl (rdcs lv s av) 91) := by
  rw [show F * RDevC r lv rls av kvs s = F * Sl 2 lv s.ls.length (rls.flatMap rcl) * Bs rlR rls * ArmsR av kvs s.arms * pt r (cl (rdcs lv s av) 91) by unfold RDevC; ac_rfl]
  exact has_here
theorem rdevC_upd (o c : Int) (f : Bool) : Upd (F * RDevC r lv rls av kvs s) r (cl (rdcs lv s av) 91) (cl (rdcs lv { s with ops := o, cnt := c, off := f } av) 91) (F * RDevC r lv rls av kvs { s with ops := o, cnt := c, off := f }) := by
  have e : ∀ t : DevS, F * RDevC r lv rls av kvs t = F * Sl 2 lv t.ls.length (rls.flatMap rcl) * Bs rlR rls * ArmsR av kvs t.arms * pt r (cl (rdcs lv t av) 91) := fun t => by unfold RDevC; ac_rfl
  rw [e, e]; exact upd_here
/-- What is read of the device. -/
structure RdevR (A : SP) (r : Nat) (lv : Value) (rls : List RL) (av : Value) (s : DevS) : Prop where
  wf : WfD s
  len : rls.length = s.ls.length
  at_ : ∀ i (h : i < rls.length) (h' : i < s.ls.length), rls[i].l = s.ls[i]
  d : Rs A (some ⟨r, 0, none⟩) (rdcs lv s av)
  lv : ∃ b o c, lv = .slice (some ⟨b, o, none⟩) s.ls.length c ∧ s.ls.length ≤ c ∧ Rs A (some ⟨b, o, none⟩) (rls.flatMap rcl)
  all : ∀ i (h : i < rls.length), ∃ b o c, rls[i].v = .slice (some ⟨b, o, none⟩) rls[i].rows.length c ∧ rls[i].rows.length ≤ c ∧ Rs A (some ⟨b, o, none⟩) (rls[i].rows.map Prod.fst)
  row : ∀ i (h : i < rls.length) j (h' : j < rls[i].rows.length), ∃ b o c, rls[i].rows[j].1 = .slice (some ⟨b, o, none⟩) 64 c ∧ 64 ≤ c ∧ Rs A (some ⟨b, o, none⟩) (bys (lb rls[i].rows[j].2))
theorem rs_in {A X R : SP} {a : Option Addr} {xs : List Value} (e : A = R * X) (h : Rs (R * X) a xs) : Rs A a xs := e ▸ h
theorem rdevR_of (hw : WfD s) (h1 : rls.map RL.l = s.ls) {g : Gh} {w : World} (hs : sat g w (F * RDevC r lv rls av kvs s)) : RdevR (F * RDevC r lv rls av kvs s) r lv rls av s := by
  have hlen : rls.length = s.ls.length := by rw [← h1, List.length_map]
  have hat : ∀ i (h : i < rls.length) (h' : i < s.ls.length), rls[i].l = s.ls[i] := fun i h h' => by
    have : (rls.map RL.l)[i]? = some rls[i].l := by simp [h]
    rw [h1, List.getElem?_eq_getElem h'] at this
    exact (Option.some.inj this).symm
  have hrne : ∀ i (h : i < rls.length), 0 < rls[i].rows.length := fun i h => by
    have hl := hw.line _ (List.getElem_mem (show i < s.ls.length by omega))
    rw [← hat i h (by omega)] at hl
    have := List.length_pos_iff.2 hl.ne
    simpa [RL.l] using this
  refine ⟨hw, hlen, hat, ?_, ?_, ?_, ?_⟩
  · refine rs_in (R := F * Sl 2 lv s.ls.length (rls.flatMap rcl) * Bs rlR rls * ArmsR av kvs s.arms) (X := pt r (cl (rdcs lv s av) 91)) (by unfold RDevC; ac_rfl) rs_pt0
  · have e : F * RDevC r lv rls av kvs s = F * pt r (cl (rdcs lv s av) 91) * Bs rlR rls * ArmsR av kvs s.arms * Sl 2 lv s.ls.length (rls.flatMap rcl) := by unfold RDevC; ac_rfl
    have hpos := hw.pos
    obtain ⟨a, c, e1, e2, e3, e4⟩ := sl_have' e hs
    obtain ⟨b, o, rfl, hc⟩ := e4.some (by rw [e3]; omega)
    exact ⟨b, o, c, e1, e2, rs_rd (rd_cells hc)⟩
  · intro i h
    obtain ⟨R, hR, _⟩ := bs_get (f := rlR) h
    have e : F * RDevC r lv rls av kvs s = F * pt r (cl (rdcs lv s av) 91) * Sl 2 lv s.ls.length (rls.flatMap rcl) * R * Bs rowR rls[i].rows * ArmsR av kvs s.arms * Sl 1 rls[i].v rls[i].rows.length (rls[i].rows.map Prod.fst) := by unfold RDevC; rw [hR]; unfold rlR; ac_rfl
    have hpos := hrne i h
    obtain ⟨a, c, e1, e2, e3, e4⟩ := sl_have' e hs
    obtain ⟨b, o, rfl, hc⟩ := e4.some (by rw [e3]; omega)
    exact ⟨b, o, c, e1, e2, rs_rd (rd_cells hc)⟩
  · intro i h j h'
    obtain ⟨R, hR, _⟩ := bs_get (f := rlR) h
    obtain ⟨R', hR', _⟩ := bs_get (f := rowR) h'
    have e : F * RDevC r lv rls av kvs s = F * pt r (cl (rdcs lv s av) 91) * Sl 2 lv s.ls.length (rls.flatMap rcl) * R * Sl 1 rls[i].v rls[i].rows.length (rls[i].rows.map Prod.fst) * R' * ArmsR av kvs s.arms * SlR 1 rls[i].rows[j].1 64 (bys (lb rls[i].rows[j].2)) := by
      unfold RDevC; rw [hR]; unfold rlR; rw [hR']; unfold rowR; ac_rfl
    obtain ⟨a, c, e1, e2, e3, e4⟩ := slR_have e hs
    obtain ⟨b, o, rfl, hc⟩ := e4.some (by rw [e3]; omega)
    exact ⟨b, o, c, e1, e2, rs_rd (rd_cells hc)⟩
theorem RdevR.left {A X : SP} (h : RdevR A r lv rls av s) : RdevR (A * X) r lv rls av s :=
  ⟨h.wf, h.len, h.at_, h.d.left, let ⟨b, o, c, e1, e2, e3⟩ := h.lv; ⟨b, o, c, e1, e2, e3.left⟩, fun i hi => let ⟨b, o, c, e1, e2, e3⟩ := h.all i hi; ⟨b, o, c, e1, e2, e3.left⟩,
    fun i hi j hj => let ⟨b, o, c, e1, e2, e3⟩ := h.row i hi j hj; ⟨b, o, c, e1, e2, e3.left⟩⟩
theorem RdevR.rows {A : SP} (h : RdevR A r lv rls av s) {i : Nat} (hi : i < rls.length) (hi' : i < s.ls.length) : rls[i].rows.length = s.ls[i].st.length := by
  rw [← h.at_ i hi hi']; simp [RL.l]
theorem RdevR.snd {A : SP} (h : RdevR A r lv rls av s) {i j : Nat} (hi : i < rls.length) (hi' : i < s.ls.length) (hj : j < rls[i].rows.length) : rls[i].rows[j].2 = s.ls[i].st[j]'(by rw [← h.rows hi hi']; exact hj) := by
  have := h.at_ i hi hi'
  have e : s.ls[i].st = rls[i].rows.map Prod.snd := by rw [← this]; rfl
  simp only [e, List.getElem_map]
theorem RdevR.mark {A : SP} (h : RdevR A r lv rls av s) {i : Nat} (hi : i < rls.length) (hi' : i < s.ls.length) : rls[i].mark = s.ls[i].mark := by rw [← h.at_ i hi hi']; rfl
theorem RdevR.lvR {A : SP} {b o n c : Nat} (h : RdevR A r (.slice (some ⟨b, o, none⟩) n c) rls av s) : Rs A (some ⟨b, o, none⟩) (rls.flatMap rcl) := by
  obtain ⟨b', o', c', e, _, h1⟩ := h.lv
  simp only [Value.slice.injEq, Option.some.injEq, Addr.mk.injEq] at e
  obtain ⟨⟨rfl, rfl, _⟩, _, _⟩ := e
  exact h1
/-- One line, told by itself. -/
theorem rdevC_focus {i n : Nat} (hi : i < rls.length) (hn : s.ls.length = n) : ∃ R, (∀ F, F * RDevC r lv rls av kvs s = F * R * pt r (cl (rdcs lv s av) 91) * Bs rowR rls[i].rows * Sl 1 rls[i].v rls[i].rows.length (rls[i].rows.map Prod.fst) * Sl 2 lv n (rls.flatMap rcl)) ∧
    ∀ F x (t : DevS), t.ls.length = n → t.arms = s.arms → t.ops = s.ops → t.cnt = s.cnt → t.off = s.off → F * R * pt r (cl (rdcs lv s av) 91) * Bs rowR x.rows * Sl 1 x.v x.rows.length (x.rows.map Prod.fst) * Sl 2 lv n ((rls.set i x).flatMap rcl) = F * RDevC r lv (rls.set i x) av kvs t := by
  subst hn
  obtain ⟨R, hR, hS⟩ := bs_get (f := rlR) hi
  refine ⟨R * ArmsR av kvs s.arms, fun F => ?_, fun F x t ht ha h1 h2 h3 => ?_⟩
  · unfold RDevC; rw [hR]; unfold rlR; ac_rfl
  · have e : rdcs lv s av = rdcs lv t av := by unfold rdcs; rw [ht, h1, h2, h3]
    unfold RDevC; rw [hS, ha, ht, e]; unfold rlR; ac_rfl
/-- A line that keeps one content. -/
theorem rdev_line1 {X S2 : SP} {rows : List (Value × List Nat)} {k b : Nat} {v : Value} {xs : List Value} {n : Nat} {E : TypeId} (hk : k < rows.length) {g : Gh} {w : World} (h : sat g w (X * Bs rowR rows * Sl 1 v n xs * S2 * pt b (cl [rows[k].1] E))) :
    sat g w (X * Bs rowR [rows[k]] * Sl 1 (.slice (some ⟨b, 0, none⟩) 1 1) 1 [rows[k].1] * S2) := by
  obtain ⟨R', hR', _⟩ := bs_get (f := rowR) hk
  have h1 : sat g w (X * S2 * rowR rows[k] * pt b (cl [rows[k].1] E) * (R' * Sl 1 v n xs)) := h.perm (by rw [hR']; ac_rfl)
  exact (sl_new (k := 1) (n := 1) (cap := 1) (xs := [rows[k].1]) h1.left (by decide) (Nat.le_refl _) rfl).perm (by rw [bs_cons, bs_nil, emp_star]; ac_rfl)
end
theorem goP_wf {keep : List Int} {i : Nat} {s : DevS} (h : WfD s) : WfD { s with ls := goPart keep i s.ls } := ⟨by simp only [goPart_length]; exact h.pos, by simp only [goPart_length]; exact h.top, goPart_wf h.line, h.arms, h.after, h.keeps⟩
end Go.Vl

set_option linter.unusedVariables false
set_option linter.unusedSimpArgs false
namespace Go.Vl
open Go Go.Proofs
theorem fn_rdevR0 {P : Program} {f : FuncId} {args : Array Value} {F : SP} {r : Nat} {s : DevS} {q : Value → Prop}
    (h : ∀ A lv rls av, RdevR A r lv rls av s → Fn P f args A fun v B => q v ∧ A = B) :
    Fn P f args (F * RDev r s) fun v B => q v ∧ F * RDev r s = B := fun g w hs => by
  obtain ⟨hw, lv, rls, av, kvs, h1, h2, hs'⟩ := rdev_iff.1 hs
  refine (h _ lv rls av (rdevR_of hw h1 hs') g w hs').mono ?_
  rintro e w' ⟨v, B, e1, ⟨hq, rfl⟩, hB⟩
  exact ⟨v, F * RDev r s, e1, ⟨hq, rfl⟩, rdev_back hw h1 h2 _ _ hB⟩
theorem fn_rdevR {P : Program} {f : FuncId} {args : Array Value} {F : SP} {r : Nat} {s : DevS} {q : Value → SP → Prop}
    (h : ∀ A lv rls av, RdevR A r lv rls av s → Fn P f args A fun v B => ∃ X, B = A * X ∧ q v X) :
    Fn P f args (F * RDev r s) fun v B => ∃ X, B = F * RDev r s * X ∧ q v X := fun g w hs => by
  obtain ⟨hw, lv, rls, av, kvs, h1, h2, hs'⟩ := rdev_iff.1 hs
  refine (h _ lv rls av (rdevR_of hw h1 hs') g w hs').mono ?_
  rintro e w' ⟨v, B, e1, ⟨X, rfl, hq⟩, hB⟩
  refine ⟨v, _, e1, ⟨X, rfl, hq⟩, ?_⟩
  have h3 := rdev_back (R := F * X) hw h1 h2 _ _ (hB.perm (star_swap _ _ _))
  exact h3.perm (star_swap _ _ _)
theorem rcl_at0 {l : List RL} {i : Nat} (h : i < l.length) : (l.flatMap rcl)[i * 2 + 0]? = some l[i].v := by rw [fm_atj (rcl_len l) h (by decide) rfl]; rfl
section
variable {A : SP} {r : Nat} {lv av : Value} {rls : List RL} {s : DevS}
theorem RdevR.pos (h : RdevR A r lv rls av s) {i : Nat} (hi : i < rls.length) : 0 < rls[i].rows.length := by
  have h' : i < s.ls.length := by rw [← h.len]; exact hi
  rw [h.rows hi h']
  exact List.length_pos_iff.2 (h.wf.line _ (List.getElem_mem h')).ne
theorem RdevR.small (h : RdevR A r lv rls av s) {i : Nat} (hi : i < rls.length) : rls[i].rows.length ≤ 2199023255552 := by
  have h' : i < s.ls.length := by rw [← h.len]; exact hi
  rw [h.rows hi h']
  exact (h.wf.line _ (List.getElem_mem h')).small
/-- The content that is seen. -/
theorem RdevR.top (h : RdevR A r lv rls av s) {i : Nat} (hi : i < rls.length) (hi' : i < s.ls.length) : ∃ b o c, (rls[i].rows.map Prod.fst)[rls[i].rows.length - 1]? = some (.slice (some ⟨b, o, none⟩) 64 c) ∧ 64 ≤ c ∧ Rs A (some ⟨b, o, none⟩) (bys (lb (seenL s.ls[i]))) := by
  have hp := h.pos hi
  obtain ⟨b, o, c, e1, e2, e3⟩ := h.row i hi (rls[i].rows.length - 1) (by omega)
  refine ⟨b, o, c, ?_, e2, ?_⟩
  · rw [List.getElem?_map, List.getElem?_eq_getElem (by omega)]; simp [e1]
  · rw [h.snd hi hi' (by omega)] at e3
    have e : seenL s.ls[i] = s.ls[i].st[rls[i].rows.length - 1]'(by rw [← h.rows hi hi']; omega) := by
      unfold seenL; simp only [← h.rows hi hi']
      simp [List.getD, show rls[i].rows.length - 1 < s.ls[i].st.length by rw [← h.rows hi hi']; omega]
    rw [e]; exact e3
theorem RdevR.allC (h : RdevR A r lv rls av s) {i : Nat} (hi : i < rls.length) : ∃ b o c, (rls.flatMap rcl)[i * 2 + 0]? = some (.slice (some ⟨b, o, none⟩) rls[i].rows.length c) ∧ rls[i].rows.length ≤ c ∧ Rs A (some ⟨b, o, none⟩) (rls[i].rows.map Prod.fst) := by
  obtain ⟨b, o, c, e1, e2, e3⟩ := h.all i hi
  exact ⟨b, o, c, by rw [rcl_at0 hi, e1], e2, e3⟩
end
attribute [local irreducible] Sl pt ro imgS
theorem rfits_c {A : SP} {p : Int} :
    Fn Try.prog 125 #[.int .i64 p] (A) (fun r B => r = .bool (fitsB p) ∧ A = B) := by
  refine fn_enterW (args := [.int .i64 p]) Try.func125 rfl Try.ntmps125 (by simp) ?_
  refine tc_seq ?_
  refine tc_reg ?_
  refine tl_v rfl (o_assign (by conv => lhs; whnf)) ?_
  refine tl_nil ?_
  refine q_then_n ?_
  refine tc_seq ?_
  refine tc_reg ?_
  refine tl_v rfl (o_move (by conv => lhs; whnf)) ?_
  refine tl_v rfl (o_geq rfl rfl) ?_
  refine tl_v rfl (o_move (by conv => lhs; whnf)) ?_
  refine tl_bool (d := 5) rfl (fun h => ?_) (fun h => ?_)
  · try simp only [decide_eq_true_eq, decide_eq_false_iff_not, Bool.not_eq_true', Bool.not_eq_false', Option.isNone_some, Option.isNone_none, Bool.not_true, Bool.not_false] at h
    refine tl_v rfl (o_move (by conv => lhs; whnf)) ?_
    refine tl_v rfl (o_leq rfl rfl) ?_
    refine tl_v rfl (o_pick_t rfl (by conv => lhs; whnf)) ?_
    refine tl_v rfl (o_move (by conv => lhs; whnf)) ?_
    refine tl_bool (d := 9) rfl (fun h => ?_) (fun h => ?_)
    · try simp only [decide_eq_true_eq, decide_eq_false_iff_not, Bool.not_eq_true', Bool.not_eq_false', Option.isNone_some, Option.isNone_none, Bool.not_true, Bool.not_false] at h
      refine tl_v rfl (o_move (by conv => lhs; whnf)) ?_
      refine tl_v rfl (by first | exact o_remI rfl rfl (by omega) | exact o_rem rfl rfl (by omega)) ?_
      refine tl_v rfl (o_eqi rfl rfl) ?_
      refine tl_v rfl (o_pick_t rfl (by conv => lhs; whnf)) ?_
      refine tl_v rfl (o_assign (by conv => lhs; whnf)) ?_
      refine tl_nil ?_
      refine q_then_n ?_
      refine tc_ret ?_
      refine ⟨.bool (decide (p % 64 = 0)), _, res1 rfl rfl, ?_, by unfold fitsB; congr 1; rw [decide_eq_decide]; omega, rfl⟩
      exact Dr.sat (by repeat (first | with_reducible exact dr_refl | apply dr_keep | apply dr_drop))
    · try simp only [decide_eq_true_eq, decide_eq_false_iff_not, Bool.not_eq_true', Bool.not_eq_false', Option.isNone_some, Option.isNone_none, Bool.not_true, Bool.not_false] at h
      refine tl_skip rfl ?_
      refine tl_skip rfl ?_
      refine tl_skip rfl ?_
      refine tl_v rfl (o_pick_f rfl (by conv => lhs; whnf)) ?_
      refine tl_v rfl (o_assign (by conv => lhs; whnf)) ?_
      refine tl_nil ?_
      refine q_then_n ?_
      refine tc_ret ?_
      refine ⟨.bool false, _, res1 rfl rfl, ?_, by unfold fitsB; rw [decide_eq_false (by omega)], rfl⟩
      exact Dr.sat (by repeat (first | with_reducible exact dr_refl | apply dr_keep | apply dr_drop))
  · try simp only [decide_eq_true_eq, decide_eq_false_iff_not, Bool.not_eq_true', Bool.not_eq_false', Option.isNone_some, Option.isNone_none, Bool.not_true, Bool.not_false] at h
    refine tl_skip rfl ?_
    refine tl_skip rfl ?_
    refine tl_v rfl (o_pick_f rfl (by conv => lhs; whnf)) ?_
    refine tl_v rfl (o_move (by conv => lhs; whnf)) ?_
    refine tl_skip rfl ?_
    refine tl_skip rfl ?_
    refine tl_skip rfl ?_
    refine tl_v rfl (o_pick_f rfl (by conv => lhs; whnf)) ?_
    refine tl_v rfl (o_assign (by conv => lhs; whnf)) ?_
    refine tl_nil ?_
    refine q_then_n ?_
    refine tc_ret ?_
    refine ⟨.bool false, _, res1 rfl rfl, ?_, by unfold fitsB; rw [decide_eq_false (by omega)], rfl⟩
    exact Dr.sat (by repeat (first | with_reducible exact dr_refl | apply dr_keep | apply dr_drop))
theorem rOps_f (A : SP) {r : Nat} {lv av : Value} {rls : List RL} {s : DevS} (hR : RdevR A r lv rls av s) :
    Fn Try.prog 69 #[.pointer (some ⟨r, 0, none⟩)] (A) (fun v B => v = .int .i64 s.ops ∧ A = B) := by
  refine fn_enterW (args := [.pointer (some ⟨r, 0, none⟩)]) Try.func69 rfl Try.ntmps69 (by simp) ?_
  refine tc_seq ?_
  refine tc_reg ?_
  refine tl_v rfl (o_assign (by conv => lhs; whnf)) ?_
  refine tl_nil ?_
  refine q_then_n ?_
  refine tc_seq ?_
  refine tc_reg ?_
  refine tl_v rfl (o_move (by conv => lhs; whnf)) ?_
  refine tl_v rfl (o_nilCheck rfl) ?_
  refine tl_v rfl (o_fieldAddr (o := 2) Try.underlying91 rfl rfl sz3 rfl) ?_
  refine tl_v rfl (o_ldP (a := some ⟨r, 0, none⟩) (i := 2) p3 rfl (by repeat (first | exact hR.d | apply Rs.left)) rfl) ?_
  refine tl_v rfl (o_assign (by conv => lhs; whnf)) ?_
  refine tl_nil ?_
  refine q_then_n ?_
  refine tc_ret ?_
  refine ⟨_, _, res1 rfl rfl, ?_, rfl, rfl⟩
  exact Dr.sat (by repeat (first | with_reducible exact dr_refl | apply dr_keep | apply dr_drop))
theorem rinside_f (A : SP) {r : Nat} {lv av : Value} {rls : List RL} {s : DevS} (hR : RdevR A r lv rls av s) {p m : Int} (hp : -9223372036854775808 ≤ p ∧ p ≤ 9223372036854775807) (hm : -9223372036854775808 ≤ m ∧ m ≤ 9223372036854775807) :
    Fn Try.prog 136 #[.pointer (some ⟨r, 0, none⟩), .int .i64 p, .int .i64 m] (A) (fun v B => v = .bool (decide (rdy s.ls.length false p m = 0)) ∧ A = B) := by
  refine fn_enterW (args := [.pointer (some ⟨r, 0, none⟩), .int .i64 p, .int .i64 m]) Try.func136 rfl Try.ntmps136 (by simp) ?_
  have htop := hR.wf.top
  refine tc_seq ?_
  refine tc_reg ?_
  refine tl_v rfl (o_assign (by conv => lhs; whnf)) ?_
  refine tl_nil ?_
  refine q_then_n ?_
  refine tc_seq ?_
  refine tc_reg ?_
  refine tl_v rfl (o_move (by conv => lhs; whnf)) ?_
  refine tl_v rfl (o_geq rfl rfl) ?_
  refine tl_v rfl (o_move (by conv => lhs; whnf)) ?_
  refine tl_bool (d := 9) rfl (fun h => ?_) (fun h => ?_)
  · try simp only [decide_eq_true_eq, decide_eq_false_iff_not, Bool.not_eq_true', Bool.not_eq_false', Option.isNone_some, Option.isNone_none, Bool.not_true, Bool.not_false] at h
    refine tl_v rfl (o_move (by conv => lhs; whnf)) ?_
    refine tl_v rfl (o_geq rfl rfl) ?_
    refine tl_v rfl (o_pick_t rfl (by conv => lhs; whnf)) ?_
    refine tl_v rfl (o_move (by conv => lhs; whnf)) ?_
    refine tl_bool (d := 13) rfl (fun h => ?_) (fun h => ?_)
    · try simp only [decide_eq_true_eq, decide_eq_false_iff_not, Bool.not_eq_true', Bool.not_eq_false', Option.isNone_some, Option.isNone_none, Bool.not_true, Bool.not_false] at h
      refine tl_v rfl (o_move (by conv => lhs; whnf)) ?_
      refine tl_v rfl (o_move (by conv => lhs; whnf)) ?_
      refine tl_v rfl (o_nilCheck rfl) ?_
      refine tl_v rfl (o_fieldAddr (o := 0) Try.underlying91 rfl rfl sz3 rfl) ?_
      refine tl_v rfl (o_ldP (a := some ⟨r, 0, none⟩) (i := 0) p3 rfl (by repeat (first | exact hR.d | apply Rs.left)) rfl) ?_
      refine tl_v rfl (o_leq rfl rfl) ?_
      refine tl_v rfl (o_pick_t rfl (by conv => lhs; whnf)) ?_
      refine tl_v rfl (o_move (by conv => lhs; whnf)) ?_
      refine tl_bool (d := 21) rfl (fun h => ?_) (fun h => ?_)
      · try simp only [decide_eq_true_eq, decide_eq_false_iff_not, Bool.not_eq_true', Bool.not_eq_false', Option.isNone_some, Option.isNone_none, Bool.not_true, Bool.not_false] at h
        refine tl_v rfl (o_move (by conv => lhs; whnf)) ?_
        refine tl_v rfl (o_move (by conv => lhs; whnf)) ?_
        refine tl_v rfl (o_nilCheck rfl) ?_
        refine tl_v rfl (o_fieldAddr (o := 0) Try.underlying91 rfl rfl sz3 rfl) ?_
        refine tl_v rfl (o_ldP (a := some ⟨r, 0, none⟩) (i := 0) p3 rfl (by repeat (first | exact hR.d | apply Rs.left)) rfl) ?_
        refine tl_v rfl (o_move (by conv => lhs; whnf)) ?_
        refine tl_v rfl (by first | exact o_subI rfl rfl (by omega) | exact o_sub rfl rfl) ?_
        refine tl_v rfl (o_leq rfl rfl) ?_
        refine tl_v rfl (o_pick_t rfl (by conv => lhs; whnf)) ?_
        refine tl_v rfl (o_assign (by conv => lhs; whnf)) ?_
        refine tl_nil ?_
        refine q_then_n ?_
        refine tc_ret ?_
        refine ⟨.bool (decide (m ≤ ((s.ls.length * 64 : Nat) : Int) - p)), _, res1 rfl rfl, ?_, (by congr 1; rw [decide_eq_decide]; unfold rdy; rw [if_neg (by decide)]; split <;> constructor <;> intro _ <;> omega), rfl⟩
        exact Dr.sat (by repeat (first | with_reducible exact dr_refl | apply dr_keep | apply dr_drop))
      · try simp only [decide_eq_true_eq, decide_eq_false_iff_not, Bool.not_eq_true', Bool.not_eq_false', Option.isNone_some, Option.isNone_none, Bool.not_true, Bool.not_false] at h
        refine tl_skip rfl ?_
        refine tl_skip rfl ?_
        refine tl_skip rfl ?_
        refine tl_skip rfl ?_
        refine tl_skip rfl ?_
        refine tl_skip rfl ?_
        refine tl_skip rfl ?_
        refine tl_skip rfl ?_
        refine tl_v rfl (o_pick_f rfl (by conv => lhs; whnf)) ?_
        refine tl_v rfl (o_assign (by conv => lhs; whnf)) ?_
        refine tl_nil ?_
        refine q_then_n ?_
        refine tc_ret ?_
        refine ⟨.bool false, _, res1 rfl rfl, ?_, (by rw [decide_eq_false]; unfold rdy; rw [if_neg (by decide), if_pos (by omega)]; decide), rfl⟩
        exact Dr.sat (by repeat (first | with_reducible exact dr_refl | apply dr_keep | apply dr_drop))
    · try simp only [decide_eq_true_eq, decide_eq_false_iff_not, Bool.not_eq_true', Bool.not_eq_false', Option.isNone_some, Option.isNone_none, Bool.not_true, Bool.not_false] at h
      refine tl_skip rfl ?_
      refine tl_skip rfl ?_
      refine tl_skip rfl ?_
      refine tl_skip rfl ?_
      refine tl_skip rfl ?_
      refine tl_skip rfl ?_
      refine tl_v rfl (o_pick_f rfl (by conv => lhs; whnf)) ?_
      refine tl_v rfl (o_move (by conv => lhs; whnf)) ?_
      refine tl_skip rfl ?_
      refine tl_skip rfl ?_
      refine tl_skip rfl ?_
      refine tl_skip rfl ?_
      refine tl_skip rfl ?_
      refine tl_skip rfl ?_
      refine tl_skip rfl ?_
      refine tl_skip rfl ?_
      refine tl_v rfl (o_pick_f rfl (by conv => lhs; whnf)) ?_
      refine tl_v rfl (o_assign (by conv => lhs; whnf)) ?_
      refine tl_nil ?_
      refine q_then_n ?_
      refine tc_ret ?_
      refine ⟨.bool false, _, res1 rfl rfl, ?_, (by rw [decide_eq_false]; unfold rdy; rw [if_neg (by decide), if_pos (by omega)]; decide), rfl⟩
      exact Dr.sat (by repeat (first | with_reducible exact dr_refl | apply dr_keep | apply dr_drop))
  · try simp only [decide_eq_true_eq, decide_eq_false_iff_not, Bool.not_eq_true', Bool.not_eq_false', Option.isNone_some, Option.isNone_none, Bool.not_true, Bool.not_false] at h
    refine tl_skip rfl ?_
    refine tl_skip rfl ?_
    refine tl_v rfl (o_pick_f rfl (by conv => lhs; whnf)) ?_
    refine tl_v rfl (o_move (by conv => lhs; whnf)) ?_
    refine tl_skip rfl ?_
    refine tl_skip rfl ?_
    refine tl_skip rfl ?_
    refine tl_skip rfl ?_
    refine tl_skip rfl ?_
    refine tl_skip rfl ?_
    refine tl_v rfl (o_pick_f rfl (by conv => lhs; whnf)) ?_
    refine tl_v rfl (o_move (by conv => lhs; whnf)) ?_
    refine tl_skip rfl ?_
    refine tl_skip rfl ?_
    refine tl_skip rfl ?_
    refine tl_skip rfl ?_
    refine tl_skip rfl ?_
    refine tl_skip rfl ?_
    refine tl_skip rfl ?_
    refine tl_skip rfl ?_
    refine tl_v rfl (o_pick_f rfl (by conv => lhs; whnf)) ?_
    refine tl_v rfl (o_assign (by conv => lhs; whnf)) ?_
    refine tl_nil ?_
    refine q_then_n ?_
    refine tc_ret ?_
    refine ⟨.bool false, _, res1 rfl rfl, ?_, (by rw [decide_eq_false]; unfold rdy; rw [if_neg (by decide), if_pos (by omega)]; decide), rfl⟩
    exact Dr.sat (by repeat (first | with_reducible exact dr_refl | apply dr_keep | apply dr_drop))
theorem rbelow_c {A : SP} {a : Option Addr} {c m : Nat} {xs : List Int} (hr : Rs A a (ints xs) := by repeat (first | assumption | with_reducible exact rs_sl | with_reducible exact rs_pt0 | exact rs_none | apply Rs.left)) (hm : xs.length = m := by first | assumption | rfl) (hml : m ≤ 17592186044416 := by omega) :
    Fn Try.prog 128 #[.slice a m c] (A) (fun r B => r = .bool (lowB xs) ∧ A = B) := by
  refine fn_enterW (args := [.slice a m c]) Try.func128 rfl Try.ntmps128 (by simp) ?_
  refine tc_seq ?_
  refine tc_reg ?_
  refine tl_v rfl (o_assign (by conv => lhs; whnf)) ?_
  refine tl_nil ?_
  refine q_then_n ?_
  refine tc_seq ?_
  refine tc_seq ?_
  refine tc_reg ?_
  refine tl_v rfl (o_assign (by conv => lhs; whnf)) ?_
  refine tl_nil ?_
  refine q_then_n ?_
  refine tc_block ?_
  refine tc_loop (fun kk ρ BB => ∃ (i : Nat), (i ≤ m) ∧ (∀ k (h : k < xs.length), k < i → 0 ≤ xs[k]) ∧ kk = m - i ∧ ρ 3 = .int .i64 (i : Nat) ∧ ρ 0 = .slice a m c ∧ BB = A) (m := m - (0)) ?_ ?_
  · exact ⟨0, by omega, fun k h h0 => by omega, rfl, rfl, rfl, rfl⟩
  · intro k ρ B hI
    obtain ⟨i, hp0, hp1, hkk1, hE3, hE0, hBA⟩ := hI
    obtain rfl := hBA.symm
    refine tc_env (d := 3) hE3 ?_
    refine tc_env (d := 0) hE0 ?_
    clear hE3 hE0
    refine tc_seq ?_
    refine tc_seq ?_
    refine tc_reg ?_
    refine tl_v rfl (o_move (by conv => lhs; whnf)) ?_
    refine tl_v rfl (o_move (by conv => lhs; whnf)) ?_
    refine tl_v rfl (o_len Try.underlying37 rfl) ?_
    refine tl_v rfl (o_lss rfl rfl) ?_
    refine tl_nil ?_
    refine q_then_n ?_
    refine tc_cond rfl (fun h => ?_) (fun h => ?_)
    · have hi : i < xs.length := by simp at h; omega
      refine tc_skip ?_
      refine q_then_n ?_
      refine tc_seq ?_
      refine tc_block ?_
      refine tc_seq ?_
      refine tc_reg ?_
      refine tl_v rfl (o_move (by conv => lhs; whnf)) ?_
      refine tl_v rfl (o_move (by conv => lhs; whnf)) ?_
      refine tl_v rfl (o_ixP1 Try.underlying37 sz3 rfl rfl (by first | omega | (simp only [bys_length, ints_length, wds_length, bos_length, List.length_append, List.length_take, List.length_drop, List.length_singleton]; omega)) (by repeat (first | exact nn_some | with_reducible exact nn_sl (by decide) | exact nn_rs (by assumption) (fun _ => by first | omega | (simp only [bys_length, ints_length, wds_length, bos_length, List.length_append, List.length_take, List.length_drop, List.length_singleton]; omega)) | apply Nn.left))) ?_
      refine tl_v rfl (o_ldP p3 rfl (by repeat (first | assumption | with_reducible exact rs_sl | with_reducible exact rs_pt0 | exact rs_none | apply Rs.left)) (by first | assumption | exact bys_at (by omega) | exact ints_at (by omega) | exact wds_at (by omega) | exact bos_at (by omega) | rfl)) ?_
      refine tl_v rfl (o_lss rfl rfl) ?_
      refine tl_nil ?_
      refine q_then_n ?_
      refine tc_cond rfl (fun h => ?_) (fun h => ?_)
      · try simp only [decide_eq_true_eq, decide_eq_false_iff_not, Bool.not_eq_true', Bool.not_eq_false', Option.isNone_some, Option.isNone_none, Bool.not_true, Bool.not_false] at h
        refine tc_seq ?_
        refine tc_reg ?_
        refine tl_v rfl (o_assign (by conv => lhs; whnf)) ?_
        refine tl_nil ?_
        refine q_then_n ?_
        refine tc_ret ?_
        refine q_block_r (q_then_r (q_then_r (q_block_r (q_then_r ?_))))
        refine ⟨.bool true, _, res1 rfl rfl, ?_, (by rw [show lowB xs = true from List.any_eq_true.2 ⟨_, List.getElem_mem hi, decide_eq_true h⟩]), rfl⟩
        exact Dr.sat (by repeat (first | with_reducible exact dr_refl | apply dr_keep | apply dr_drop))
      · try simp only [decide_eq_true_eq, decide_eq_false_iff_not, Bool.not_eq_true', Bool.not_eq_false', Option.isNone_some, Option.isNone_none, Bool.not_true, Bool.not_false] at h
        refine tc_skip ?_
        refine q_block_n (q_then_n ?_)
        refine tc_reg ?_
        refine tl_v rfl (o_move (by conv => lhs; whnf)) ?_
        refine tl_v rfl (by first | exact o_addI rfl rfl (by omega) | exact o_add rfl rfl) ?_
        refine tl_v rfl (o_assign (by conv => lhs; whnf)) ?_
        refine tl_nil ?_
        refine q_then_n ?_
        exact ⟨_, by omega, i + 1, by omega, fun k hk h0 => by rcases Nat.lt_succ_iff_lt_or_eq.1 h0 with h1 | rfl; exact hp1 k hk h1; (simp at h; omega), rfl, rfl, rfl, rfl⟩
    · try simp only [decide_eq_true_eq, decide_eq_false_iff_not, Bool.not_eq_true', Bool.not_eq_false', Option.isNone_some, Option.isNone_none, Bool.not_true, Bool.not_false] at h
      refine tc_exit ?_
      refine q_then_e (q_then_e (q_block_x (q_then_n ?_)))
      refine tc_seq ?_
      refine tc_reg ?_
      refine tl_v rfl (o_assign (by conv => lhs; whnf)) ?_
      refine tl_nil ?_
      refine q_then_n ?_
      refine tc_ret ?_
      obtain rfl : i = xs.length := by omega
      have e : lowB xs = false := by rw [lowB, List.any_eq_false]; intro x hx; obtain ⟨k, hk, rfl⟩ := List.mem_iff_getElem.1 hx; have := hp1 k hk hk; simp; omega
      exact ⟨.bool false, A, res1 rfl rfl, Dr.sat (by repeat (first | with_reducible exact dr_refl | apply dr_keep | apply dr_drop)), by rw [e], rfl⟩
theorem rseen_f (A : SP) {r : Nat} {lv av : Value} {rls : List RL} {s : DevS} (hR : RdevR A r lv rls av s) {i b o c : Nat} (hi : i < rls.length) (ht : (rls[i].rows.map Prod.fst)[rls[i].rows.length - 1]? = some (.slice (some ⟨b, o, none⟩) 64 c)) :
    Fn Try.prog 127 #[.pointer (some ⟨r, 0, none⟩), .int .i64 (i : Nat)] (A) (fun v B => v = .slice (some ⟨b, o, none⟩) 64 c ∧ A = B) := by
  refine fn_enterW (args := [.pointer (some ⟨r, 0, none⟩), .int .i64 (i : Nat)]) Try.func127 rfl Try.ntmps127 (by simp) ?_
  obtain ⟨bl, ol, cl_, rfl, hlc, hlr⟩ := hR.lv
  obtain ⟨ba, oa, ca, g1, hca, har⟩ := hR.allC hi
  have hlen := hR.len
  have hpos := hR.pos hi
  have hsm := hR.small hi
  refine tc_seq ?_
  refine tc_reg ?_
  refine tl_v rfl (o_assign (by conv => lhs; whnf)) ?_
  refine tl_nil ?_
  refine q_then_n ?_
  refine tc_seq ?_
  refine tc_reg ?_
  refine tl_v rfl (o_move (by conv => lhs; whnf)) ?_
  refine tl_v rfl (o_nilCheck rfl) ?_
  refine tl_v rfl (o_fieldAddr (o := 1) Try.underlying91 rfl rfl sz89 rfl) ?_
  refine tl_v rfl (o_ldP (a := some ⟨r, 0, none⟩) (i := 1) p89 rfl (by repeat (first | exact hR.d | apply Rs.left)) rfl) ?_
  refine tl_v rfl (o_move (by conv => lhs; whnf)) ?_
  refine tl_v rfl (o_ixP Try.underlying89 sz176 rfl rfl (by first | omega | (simp only [bys_length, ints_length, wds_length, bos_length, List.length_append, List.length_take, List.length_drop, List.length_singleton]; omega)) (by repeat (first | exact nn_some | with_reducible exact nn_sl (by decide) | exact nn_rs (by assumption) (fun _ => by first | omega | (simp only [bys_length, ints_length, wds_length, bos_length, List.length_append, List.length_take, List.length_drop, List.length_singleton]; omega)) | apply Nn.left))) ?_
  refine tl_v rfl (o_faP (m := 0) (o := 0) Try.underlying176 rfl rfl sz33 rfl (by repeat (first | exact nn_some | with_reducible exact nn_sl (by decide) | exact nn_rs (by assumption) (fun _ => by first | omega | (simp only [bys_length, ints_length, wds_length, bos_length, List.length_append, List.length_take, List.length_drop, List.length_singleton]; omega)) | apply Nn.left))) ?_
  refine tl_v rfl (o_ldP p33 rfl (by repeat (first | assumption | with_reducible exact rs_sl | with_reducible exact rs_pt0 | exact rs_none | apply Rs.left)) (by first | assumption | exact bys_at (by omega) | exact ints_at (by omega) | exact wds_at (by omega) | exact bos_at (by omega) | rfl)) ?_
  refine tl_env (d := 13) (v := .slice (some ⟨ba, oa, none⟩) rls[i].rows.length ca) (rfl) ?_
  refine tl_v rfl (o_assign (by conv => lhs; whnf)) ?_
  refine tl_nil ?_
  refine q_then_n ?_
  refine tc_seq ?_
  refine tc_reg ?_
  refine tl_v rfl (o_move (by conv => lhs; whnf)) ?_
  refine tl_v rfl (o_move (by conv => lhs; whnf)) ?_
  refine tl_v rfl (o_len Try.underlying33 rfl) ?_
  refine tl_v rfl (by first | exact o_subI rfl rfl (by omega) | exact o_sub rfl rfl) ?_
  refine tl_env (d := 17) (v := .int .i64 ((rls[i].rows.length - 1 : Nat) : Int)) (by show Value.int .i64 _ = _; congr 1; omega) ?_
  refine tl_v rfl (o_ixP1 Try.underlying33 sz28 rfl rfl (by omega) nn_some) ?_
  refine tl_v rfl (o_ldP p28 rfl har ht) ?_
  refine tl_v rfl (o_assign (by conv => lhs; whnf)) ?_
  refine tl_nil ?_
  refine q_then_n ?_
  refine tc_ret ?_
  refine ⟨_, _, res1 rfl rfl, ?_, rfl, rfl⟩
  exact Dr.sat (by repeat (first | with_reducible exact dr_refl | apply dr_keep | apply dr_drop))
end Go.Vl

set_option linter.unusedVariables false
set_option linter.unusedSimpArgs false
namespace Go.Vl
open Go Go.Proofs
attribute [local irreducible] Sl pt ro imgS
theorem rgoes_f (F : SP) {r c : Nat} {s : DevS} {a : Option Addr} {keep : List Int} (hr : Rs F a (ints keep)) (hk : ∀ k ∈ keep, 0 ≤ k ∧ k ≤ 9223372036854775807) (hkl : keep.length ≤ 17592186044416) :
    Fn Try.prog 129 #[.pointer (some ⟨r, 0, none⟩), .slice a keep.length c] (F * RDev r s) (fun v B => v = .tuple #[] ∧ B = F * RDev r (goesS keep s)) := by
  refine fn_enterW (args := [.pointer (some ⟨r, 0, none⟩), .slice a keep.length c]) Try.func129 rfl Try.ntmps129 (by simp) ?_
  refine tc_rdev fun hw lv rls av kvs hmap hkv => ?_
  have hpos := hw.pos
  have htop := hw.top
  refine tc_have (fun _ _ h => rdevR_of hw hmap h) fun hR0 => ?_
  obtain ⟨bl, ol, cl_, rfl, hlc, _⟩ := hR0.lv
  refine tc_seq ?_
  refine tc_seq ?_
  refine tc_reg ?_
  refine tl_v rfl (o_assign (by conv => lhs; whnf)) ?_
  refine tl_nil ?_
  refine q_then_n ?_
  refine tc_block ?_
  refine tc_loop (fun kk ρ BB => ∃ (i : Nat) (rls1 : List RL), (i ≤ s.ls.length) ∧ (rls1.map RL.l = goPart keep i s.ls) ∧ kk = s.ls.length - i ∧ ρ 4 = .int .i64 (i : Nat) ∧ ρ 0 = .pointer (some ⟨r, 0, none⟩) ∧ ρ 1 = .slice a keep.length c ∧ BB = F * RDevC r (.slice (some ⟨bl, ol, none⟩) s.ls.length cl_) rls1 av kvs { s with ls := goPart keep i s.ls }) (m := s.ls.length - (0)) ?_ ?_
  · exact ⟨0, rls, by omega, by rw [goPart_zero]; exact hmap, rfl, rfl, rfl, rfl, by rw [goPart_zero]⟩
  · intro k ρ B hI
    obtain ⟨i, rls1, hp0, hp1, hkk1, hE4, hE0, hE1, rfl⟩ := hI
    refine tc_env (d := 4) hE4 ?_
    refine tc_env (d := 0) hE0 ?_
    refine tc_env (d := 1) hE1 ?_
    clear hE4 hE0 hE1
    refine tc_seq ?_
    refine tc_seq ?_
    refine tc_reg ?_
    refine tl_v rfl (o_move (by conv => lhs; whnf)) ?_
    refine tl_v rfl (o_move (by conv => lhs; whnf)) ?_
    refine tl_v rfl (o_nilCheck rfl) ?_
    refine tl_v rfl (o_fieldAddr (o := 1) Try.underlying91 rfl rfl sz89 rfl) ?_
    refine tl_v rfl (o_load p89 rfl rdevC_r rfl) ?_
    refine tl_v rfl (o_len Try.underlying89 rfl) ?_
    refine tl_v rfl (o_lss rfl rfl) ?_
    refine tl_nil ?_
    refine q_then_n ?_
    refine tc_cond rfl (fun h => ?_) (fun h => ?_)
    · have hi : i < s.ls.length := by simp at h; omega
      have hgl : (goPart keep i s.ls).length = s.ls.length := goPart_length _ _ _
      refine tc_have (fun _ _ h => rdevR_of (goP_wf hw) hp1 h) fun hR => ?_
      have hir : i < rls1.length := by rw [hR.len, hgl]; exact hi
      obtain ⟨ba, oa, ca, g1, hca, har⟩ := hR.allC hir
      have hll := hR.lvR
      have hsm := hR.small hir
      have hps := hR.pos hir
      have hkl2 := kOf_lt (keep := keep) (i := i) hps
      obtain ⟨br, orr, cr, hrow, hcr, hrr⟩ := hR.row i hir _ hkl2
      refine tc_skip ?_
      refine q_then_n ?_
      refine tc_seq ?_
      refine tc_block ?_
      refine tc_seq ?_
      refine tc_reg ?_
      refine tl_v rfl (o_assign (by conv => lhs; whnf)) ?_
      refine tl_nil ?_
      refine q_then_n ?_
      refine tc_seq ?_
      refine tc_seq ?_
      refine tc_reg ?_
      refine tl_v rfl (o_move (by conv => lhs; whnf)) ?_
      refine tl_v rfl (o_move (by conv => lhs; whnf)) ?_
      refine tl_v rfl (o_len Try.underlying37 rfl) ?_
      refine tl_v rfl (o_lss rfl rfl) ?_
      refine tl_nil ?_
      refine q_then_n ?_
      refine tc_cut (fun ρ BB => ρ 5 = .int .i64 ((kOf keep i rls1[i].rows.length : Nat) : Int) ∧ ρ 0 = .pointer (some ⟨r, 0, none⟩) ∧ ρ 1 = .slice a keep.length c ∧ ρ 4 = .int .i64 (i : Nat) ∧ BB = F * RDevC r (.slice (some ⟨bl, ol, none⟩) s.ls.length cl_) rls1 av kvs { s with ls := goPart keep i s.ls }) ?_ ?_
      · skip
        refine tc_cond rfl (fun h => ?_) (fun h => ?_)
        · try simp only [decide_eq_true_eq, decide_eq_false_iff_not, Bool.not_eq_true', Bool.not_eq_false', Option.isNone_some, Option.isNone_none, Bool.not_true, Bool.not_false] at h
          refine tc_regq mo (by kernel_rfl) ?_
          refine ql_v rfl (o_move (by conv => lhs; whnf)) ?_
          refine ql_v rfl (o_move (by conv => lhs; whnf)) ?_
          refine ql_v rfl (o_ixP1 Try.underlying37 sz3 rfl rfl (by first | omega | (simp only [bys_length, ints_length, wds_length, bos_length, List.length_append, List.length_take, List.length_drop, List.length_singleton]; omega)) (by repeat (first | exact nn_some | with_reducible exact nn_sl (by decide) | exact nn_rs (by assumption) (fun _ => by first | omega | (simp only [bys_length, ints_length, wds_length, bos_length, List.length_append, List.length_take, List.length_drop, List.length_singleton]; omega)) | apply Nn.left))) ?_
          refine ql_v rfl (o_ldP p3 rfl hr.left (ints_at (by omega))) ?_
          refine ql_v rfl (o_move (by conv => lhs; whnf)) ?_
          refine ql_v rfl (o_nilCheck rfl) ?_
          refine ql_v rfl (o_fieldAddr (o := 1) Try.underlying91 rfl rfl sz89 rfl) ?_
          refine ql_v rfl (o_ldP (a := some ⟨r, 0, none⟩) (i := 1) p89 rfl hR.d rfl) ?_
          refine ql_v rfl (o_move (by conv => lhs; whnf)) ?_
          refine ql_v rfl (o_ixP Try.underlying89 sz176 rfl rfl (by first | omega | (simp only [bys_length, ints_length, wds_length, bos_length, List.length_append, List.length_take, List.length_drop, List.length_singleton]; omega)) (by repeat (first | exact nn_some | with_reducible exact nn_sl (by decide) | exact nn_rs (by assumption) (fun _ => by first | omega | (simp only [bys_length, ints_length, wds_length, bos_length, List.length_append, List.length_take, List.length_drop, List.length_singleton]; omega)) | apply Nn.left))) ?_
          refine ql_v rfl (o_faP (m := 0) (o := 0) Try.underlying176 rfl rfl sz33 rfl (by repeat (first | exact nn_some | with_reducible exact nn_sl (by decide) | exact nn_rs (by assumption) (fun _ => by first | omega | (simp only [bys_length, ints_length, wds_length, bos_length, List.length_append, List.length_take, List.length_drop, List.length_singleton]; omega)) | apply Nn.left))) ?_
          refine ql_v rfl (o_ldP p33 rfl (by repeat (first | assumption | with_reducible exact rs_sl | with_reducible exact rs_pt0 | exact rs_none | apply Rs.left)) (by first | assumption | exact bys_at (by omega) | exact ints_at (by omega) | exact wds_at (by omega) | exact bos_at (by omega) | rfl)) ?_
          refine ql_v rfl (o_len Try.underlying33 rfl) ?_
          refine ql_v rfl (o_remI rfl rfl (by have := hk _ (List.getElem_mem (show i < keep.length by omega)); omega)) ?_
          refine ql_v rfl (o_assign (by conv => lhs; whnf)) ?_
          refine ql_nil ?_
          exact ⟨(by first | (show Value.int .i64 (keep[i]'(by omega) % _) = _; congr 1; unfold kOf; rw [dif_pos (by omega), Int.toNat_of_nonneg (Int.emod_nonneg _ (by omega))]) | (show Value.int .i64 0 = _; congr 1; unfold kOf; rw [dif_neg (by omega)]; rfl)), rfl, rfl, rfl, rfl⟩
        · try simp only [decide_eq_true_eq, decide_eq_false_iff_not, Bool.not_eq_true', Bool.not_eq_false', Option.isNone_some, Option.isNone_none, Bool.not_true, Bool.not_false] at h
          refine tc_skip ?_
          exact ⟨(by first | (show Value.int .i64 (keep[i]'(by omega) % _) = _; congr 1; unfold kOf; rw [dif_pos (by omega), Int.toNat_of_nonneg (Int.emod_nonneg _ (by omega))]) | (show Value.int .i64 0 = _; congr 1; unfold kOf; rw [dif_neg (by omega)]; rfl)), rfl, rfl, rfl, rfl⟩
      · intro ρ B hI
        obtain ⟨hE5, hE0, hE1, hE4, rfl⟩ := hI
        refine q_then_n ?_
        refine tc_env (d := 5) hE5 ?_
        refine tc_env (d := 0) hE0 ?_
        refine tc_env (d := 1) hE1 ?_
        refine tc_env (d := 4) hE4 ?_
        clear hE5 hE0 hE1 hE4
        obtain ⟨R, hf1, hf2⟩ := rdevC_focus (r := r) (lv := (.slice (some ⟨bl, ol, none⟩) s.ls.length cl_)) (av := av) (kvs := kvs) (s := { s with ls := goPart keep i s.ls }) (n := s.ls.length) hir hgl
        refine tc_eq (hf1 F) ?_
        have hv0 : rls1[i].v = .slice (some ⟨ba, oa, none⟩) rls1[i].rows.length ca := by rw [rcl_at0 hir] at g1; exact Option.some.inj g1
        have hrow2 : (rls1[i].rows.map Prod.fst)[kOf keep i rls1[i].rows.length]? = some rls1[i].rows[kOf keep i rls1[i].rows.length].1 := by rw [List.getElem?_map, List.getElem?_eq_getElem hkl2]; rfl
        rw [hv0]
        refine tc_regh (S := F * R * pt r (cl (rdcs (.slice (some ⟨bl, ol, none⟩) s.ls.length cl_) { s with ls := goPart keep i s.ls } av) 91) * Bs rowR rls1[i].rows * Sl 1 (.slice (some ⟨ba, oa, none⟩) rls1[i].rows.length ca) rls1[i].rows.length (rls1[i].rows.map Prod.fst)) mo (by repeat (first | with_reducible exact dr_refl | apply dr_keep | apply dr_drop)) ?_
        show TH _ _ _ _ _ 20 #[false, false, false, false, false, false, false, false, false, false, false, false, false, false, false, false, false, false, false, false] _ _
        refine th_take (i := 0) (listed' := #[true, false, false, false, false, false, false, false, false, false, false, false, false, false, false, false, false, false, false, false]) rfl (by kernel_rfl) (by kernel_rfl) (by kernel_rfl) rfl rfl (o_move (by conv => lhs; whnf)) ?_
        refine th_take (i := 1) (listed' := #[true, true, false, false, false, false, false, false, false, false, false, false, false, false, false, false, false, false, false, false]) rfl (by kernel_rfl) (by kernel_rfl) (by kernel_rfl) rfl rfl (o_nilCheck rfl) ?_
        refine th_take (i := 2) (listed' := #[true, true, true, false, false, false, false, false, false, false, false, false, false, false, false, false, false, false, false, false]) rfl (by kernel_rfl) (by kernel_rfl) (by kernel_rfl) rfl rfl (o_fieldAddr (o := 1) Try.underlying91 rfl rfl sz89 rfl) ?_
        refine th_take (i := 3) (listed' := #[true, true, true, true, false, false, false, false, false, false, false, false, false, false, false, false, false, false, false, false]) rfl (by kernel_rfl) (by kernel_rfl) (by kernel_rfl) rfl rfl (by first | exact o_load p89 rfl (by repeat (first | with_reducible exact has_here | with_reducible exact has_pt | apply has_left)) rfl | exact o_loadC p89 rfl (by assumption)) ?_
        refine th_take (i := 4) (listed' := #[true, true, true, true, true, false, false, false, false, false, false, false, false, false, false, false, false, false, false, false]) rfl (by kernel_rfl) (by kernel_rfl) (by kernel_rfl) rfl rfl (o_move (by conv => lhs; whnf)) ?_
        refine th_take (i := 5) (listed' := #[true, true, true, true, true, true, false, false, false, false, false, false, false, false, false, false, false, false, false, false]) rfl (by kernel_rfl) (by kernel_rfl) (by kernel_rfl) rfl rfl (o_move (by conv => lhs; whnf)) ?_
        refine th_take (i := 6) (listed' := #[true, true, true, true, true, true, true, false, false, false, false, false, false, false, false, false, false, false, false, false]) rfl (by kernel_rfl) (by kernel_rfl) (by kernel_rfl) rfl rfl (o_nilCheck rfl) ?_
        refine th_take (i := 7) (listed' := #[true, true, true, true, true, true, true, true, false, false, false, false, false, false, false, false, false, false, false, false]) rfl (by kernel_rfl) (by kernel_rfl) (by kernel_rfl) rfl rfl (o_fieldAddr (o := 1) Try.underlying91 rfl rfl sz89 rfl) ?_
        refine th_take (i := 8) (listed' := #[true, true, true, true, true, true, true, true, true, false, false, false, false, false, false, false, false, false, false, false]) rfl (by kernel_rfl) (by kernel_rfl) (by kernel_rfl) rfl rfl (by first | exact o_load p89 rfl (by repeat (first | with_reducible exact has_here | with_reducible exact has_pt | apply has_left)) rfl | exact o_loadC p89 rfl (by assumption)) ?_
        refine th_take (i := 9) (listed' := #[true, true, true, true, true, true, true, true, true, true, false, false, false, false, false, false, false, false, false, false]) rfl (by kernel_rfl) (by kernel_rfl) (by kernel_rfl) rfl rfl (o_move (by conv => lhs; whnf)) ?_
        refine th_take (i := 10) (listed' := #[true, true, true, true, true, true, true, true, true, true, true, false, false, false, false, false, false, false, false, false]) rfl (by kernel_rfl) (by kernel_rfl) (by kernel_rfl) rfl rfl (o_ixP Try.underlying89 sz176 rfl rfl (by first | omega | (simp only [bys_length, ints_length, wds_length, bos_length, List.length_append, List.length_take, List.length_drop, List.length_singleton]; omega)) (by repeat (first | exact nn_some | with_reducible exact nn_sl (by decide) | exact nn_rs (by assumption) (fun _ => by first | omega | (simp only [bys_length, ints_length, wds_length, bos_length, List.length_append, List.length_take, List.length_drop, List.length_singleton]; omega)) | apply Nn.left))) ?_
        refine th_take (i := 11) (listed' := #[true, true, true, true, true, true, true, true, true, true, true, true, false, false, false, false, false, false, false, false]) rfl (by kernel_rfl) (by kernel_rfl) (by kernel_rfl) rfl rfl (o_faP (m := 0) (o := 0) Try.underlying176 rfl rfl sz33 rfl (by repeat (first | exact nn_some | with_reducible exact nn_sl (by decide) | exact nn_rs (by assumption) (fun _ => by first | omega | (simp only [bys_length, ints_length, wds_length, bos_length, List.length_append, List.length_take, List.length_drop, List.length_singleton]; omega)) | apply Nn.left))) ?_
        refine th_take (i := 13) (listed' := #[true, true, true, true, true, true, true, true, true, true, true, true, false, true, false, false, false, false, false, false]) rfl (by kernel_rfl) (by kernel_rfl) (by kernel_rfl) rfl rfl (o_move (by conv => lhs; whnf)) ?_
        refine th_one (i := 12) (by kernel_rfl) ?_
        refine oh_v (i := 12) (listed' := #[true, true, true, true, true, true, true, true, true, true, true, true, true, true, false, false, false, false, false, false]) rfl rfl rfl (o_ldP p33 rfl (by repeat (first | assumption | with_reducible exact rs_sl | with_reducible exact rs_pt0 | exact rs_none | apply Rs.left)) (by first | assumption | exact bys_at (by omega) | exact ints_at (by omega) | exact wds_at (by omega) | exact bos_at (by omega) | rfl)) ?_
        refine th_take (i := 14) (listed' := #[true, true, true, true, true, true, true, true, true, true, true, true, true, true, true, false, false, false, false, false]) rfl (by kernel_rfl) (by kernel_rfl) (by kernel_rfl) rfl rfl (o_ixP1 Try.underlying33 sz28 rfl rfl (by first | omega | (simp only [bys_length, ints_length, wds_length, bos_length, List.length_append, List.length_take, List.length_drop, List.length_singleton]; omega)) (by repeat (first | exact nn_some | with_reducible exact nn_sl (by decide) | exact nn_rs (by assumption) (fun _ => by first | omega | (simp only [bys_length, ints_length, wds_length, bos_length, List.length_append, List.length_take, List.length_drop, List.length_singleton]; omega)) | apply Nn.left))) ?_
        refine th_take (i := 15) (listed' := #[true, true, true, true, true, true, true, true, true, true, true, true, true, true, true, true, false, false, false, false]) rfl (by kernel_rfl) (by kernel_rfl) (by kernel_rfl) rfl rfl (o_ldP p28 rfl (by repeat (first | assumption | with_reducible exact rs_sl | with_reducible exact rs_pt0 | exact rs_none | apply Rs.left)) hrow2) ?_
        refine th_one (i := 16) (by kernel_rfl) ?_
        refine oh_x (i := 16) (listed' := #[true, true, true, true, true, true, true, true, true, true, true, true, true, true, true, true, true, false, false, false]) rfl rfl rfl (o_buildSlice1 Try.underlying33 sz28 z28 rfl (by rw [hrow]; rfl)) ?_
        rintro _ _ ⟨b49, rfl, rfl⟩
        refine ⟨by repeat (first | with_reducible exact dr_refl | apply dr_keep | apply dr_drop), ?_⟩
        refine th_take (i := 17) (listed' := #[true, true, true, true, true, true, true, true, true, true, true, true, true, true, true, true, true, true, false, false]) rfl (by kernel_rfl) (by kernel_rfl) (by kernel_rfl) rfl rfl (o_bS (l := [_, _]) (pv_cons (by conv => lhs; whnf) (pv_cons (by conv => lhs; whnf) pv_nil)) Try.underlying176 z176 (pl176 Try.underlying176) rfl) ?_
        refine th_take (i := 18) (listed' := #[true, true, true, true, true, true, true, true, true, true, true, true, true, true, true, true, true, true, true, false]) rfl (by kernel_rfl) (by kernel_rfl) (by kernel_rfl) rfl rfl (o_ixP Try.underlying89 sz176 rfl rfl (by first | omega | (simp only [bys_length, ints_length, wds_length, bos_length, List.length_append, List.length_take, List.length_drop, List.length_singleton]; omega)) (by repeat (first | exact nn_some | with_reducible exact nn_sl (by decide) | exact nn_rs (by assumption) (fun _ => by first | omega | (simp only [bys_length, ints_length, wds_length, bos_length, List.length_append, List.length_take, List.length_drop, List.length_singleton]; omega)) | apply Nn.left))) ?_
        refine th_one (i := 19) (by kernel_rfl) ?_
        refine oh_u (i := 19) (listed' := #[true, true, true, true, true, true, true, true, true, true, true, true, true, true, true, true, true, true, true, true]) rfl rfl rfl (o_stPN (vs := [.slice (some ⟨b49, 0, none⟩) 1 1, .int .i64 (-1)]) (ys := (rls1.set i ⟨.slice (some ⟨b49, 0, none⟩) 1 1, [rls1[i].rows[kOf keep i rls1[i].rows.length]], -1⟩).flatMap rcl) sz176 rfl rfl rfl rfl (by decide) (by repeat (first | with_reducible exact ct_here | apply ct_left)) (by omega) (fm_spl (k := 2) (f := rcl) (y := ⟨.slice (some ⟨b49, 0, none⟩) 1 1, [rls1[i].rows[kOf keep i rls1[i].rows.length]], -1⟩) (rcl_len _) hir rfl)) (by repeat (first | with_reducible exact dr_refl | apply dr_keep | apply dr_drop)) ?_
        refine th_pre (fun _ _ h => rdev_line1 hkl2 h) ?_
        have hnext : (rls1.set i ⟨.slice (some ⟨b49, 0, none⟩) 1 1, [rls1[i].rows[kOf keep i rls1[i].rows.length]], -1⟩).map RL.l = goPart keep (i + 1) s.ls := by
          rw [List.map_set, hp1, ← goPart_set keep hi]
          congr 1
          unfold goL RL.l
          have e1 := hR.rows hir (by rw [hgl]; exact hi)
          have e2 := hR.snd hir (by rw [hgl]; exact hi) hkl2
          simp only [goPart_at keep hi] at e1 e2
          simp only [e1] at e2
          simp only [List.map_cons, List.map_nil, e1, e2]
          rw [getD_at (by rw [← e1]; exact hkl2)]
        refine th_eq (hf2 F ⟨.slice (some ⟨b49, 0, none⟩) 1 1, [rls1[i].rows[kOf keep i rls1[i].rows.length]], -1⟩ { s with ls := goPart keep (i + 1) s.ls } (goPart_length _ _ _) rfl rfl rfl rfl) ?_
        refine th_done (by kernel_rfl) ?_
        refine q_block_n (q_then_n ?_)
        refine tc_reg ?_
        refine tl_v rfl (o_move (by conv => lhs; whnf)) ?_
        refine tl_v rfl (by first | exact o_addI rfl rfl (by omega) | exact o_add rfl rfl) ?_
        refine tl_v rfl (o_assign (by conv => lhs; whnf)) ?_
        refine tl_nil ?_
        refine q_then_n ?_
        exact ⟨_, by omega, i + 1, rls1.set i ⟨.slice (some ⟨b49, 0, none⟩) 1 1, [rls1[i].rows[kOf keep i rls1[i].rows.length]], -1⟩, by omega, hnext, rfl, rfl, rfl, rfl, rfl⟩
    · obtain rfl : i = s.ls.length := by simp at h; omega
      refine tc_exit ?_
      refine q_then_e (q_then_e (q_block_x (q_then_n ?_)))
      refine tc_reg ?_
      refine tl_v rfl (o_move (by conv => lhs; whnf)) ?_
      refine tl_v rfl (o_nilCheck rfl) ?_
      refine tl_v rfl (o_fieldAddr (o := 5) Try.underlying91 rfl rfl sz4 rfl) ?_
      refine tl_u rfl (o_store sz4 rfl rfl rfl (by show 5 < 6; decide) rfl (rdevC_upd s.ops s.cnt true)) ?_
      refine tl_nil ?_
      exact ⟨_, _, res0 rfl, rdev_back (goesS_wf hw) hp1 hkv, rfl, rfl⟩
end Go.Vl

set_option linter.unusedVariables false
set_option linter.unusedSimpArgs false
namespace Go.Vl
open Go Go.Proofs
attribute [local irreducible] Sl pt ro imgS
theorem tmod8 {p : Int} : p.tmod 8 = 0 ↔ p % 8 = 0 := ⟨fun h => Int.emod_eq_zero_of_dvd (Int.dvd_of_tmod_eq_zero h), fun h => Int.tmod_eq_zero_of_dvd (Int.dvd_of_emod_eq_zero h)⟩
end Go.Vl

set_option linter.unusedVariables false
set_option linter.unusedSimpArgs false
namespace Go.Vl
open Go Go.Proofs
attribute [local irreducible] Sl pt ro imgS
theorem rCrash_f (F : SP) {r c m : Nat} {s : DevS} {a : Option Addr} {keep : List Int} (hr : Rs F a (ints keep)) (hk : ∀ k ∈ keep, k ≤ 9223372036854775807) (hm : keep.length = m) (hkl : m ≤ 17592186044416) :
    Fn Try.prog 71 #[.pointer (some ⟨r, 0, none⟩), .slice a m c] (F * RDev r s) (fun v B => v = .int .i64 (crS keep s).1 ∧ B = F * RDev r (crS keep s).2) := by
  refine fn_enterW (args := [.pointer (some ⟨r, 0, none⟩), .slice a m c]) Try.func71 rfl Try.ntmps71 (by simp) ?_
  refine tc_rdev fun hw lv rls av kvs hmap hkv => ?_
  have hpos := hw.pos
  have htop := hw.top
  refine tc_have (fun _ _ h => rdevR_of hw hmap h) fun hR => ?_
  obtain ⟨bl, ol, cl_, rfl, hlc, hll⟩ := hR.lv
  have hlen := hR.len
  
  refine tc_seq ?_
  refine tc_reg ?_
  refine tl_v rfl (o_assign (by conv => lhs; whnf)) ?_
  refine tl_nil ?_
  refine q_then_n ?_
  refine tc_seq ?_
  refine tc_seq ?_
  refine tc_reg ?_
  refine tl_v rfl (o_move (by conv => lhs; whnf)) ?_
  refine tl_v rfl (o_nilCheck rfl) ?_
  refine tl_v rfl (o_fieldAddr (o := 5) Try.underlying91 rfl rfl sz4 rfl) ?_
  refine tl_v rfl (o_load p4 rfl (by repeat (first | exact rdevC_r | apply has_left)) rfl) ?_
  refine tl_nil ?_
  refine q_then_n ?_
  refine tc_cond rfl (fun h => ?_) (fun h => ?_)
  · try simp only [decide_eq_true_eq, decide_eq_false_iff_not, Bool.not_eq_true', Bool.not_eq_false', Option.isNone_some, Option.isNone_none, Bool.not_true, Bool.not_false] at h
    refine tc_seq ?_
    refine tc_reg ?_
    refine tl_v rfl (o_assign (by conv => lhs; whnf)) ?_
    refine tl_nil ?_
    refine q_then_n ?_
    refine tc_ret ?_
    refine q_then_r ?_
    have e : crS keep s = (5, s) := by unfold crS; rw [if_pos h]
    rw [e]
    exact ⟨.int .i64 5, F * RDev r s, res1 rfl rfl, rdev_back hw hmap hkv, rfl, rfl⟩
  · have hoff : s.off = false := by simpa using h
    refine tc_skip ?_
    refine q_then_n ?_
    refine tc_seq ?_
    refine tc_seq ?_
    refine tc_reg ?_
    refine tl_v rfl (o_move (by conv => lhs; whnf)) ?_
    refine tl_c rfl (o_call bd128 rfl (rbelow_c (xs := keep))) ?_
    rintro _ _ ⟨rfl, rfl⟩
    refine tl_nil ?_
    refine q_then_n ?_
    refine tc_cond rfl (fun h => ?_) (fun h => ?_)
    · try simp only [decide_eq_true_eq, decide_eq_false_iff_not, Bool.not_eq_true', Bool.not_eq_false', Option.isNone_some, Option.isNone_none, Bool.not_true, Bool.not_false] at h
      refine tc_seq ?_
      refine tc_reg ?_
      refine tl_v rfl (o_assign (by conv => lhs; whnf)) ?_
      refine tl_nil ?_
      refine q_then_n ?_
      refine tc_ret ?_
      refine q_then_r ?_
      have e : crS keep s = (2, s) := by unfold crS; rw [if_neg (by rw [hoff]; decide), if_pos h]
      rw [e]
      exact ⟨.int .i64 2, F * RDev r s, res1 rfl rfl, rdev_back hw hmap hkv, rfl, rfl⟩
    · have hlow : lowB keep = false := by simpa using h
      have e : crS keep s = (0, goesS keep s) := by unfold crS; rw [if_neg (by rw [hoff]; decide), if_neg (by rw [hlow]; decide)]
      rw [e]
      refine tc_pre (rdev_back hw hmap hkv) ?_
      subst hm
      refine tc_skip ?_
      refine q_then_n ?_
      refine tc_seq ?_
      refine tc_reg ?_
      refine tl_v rfl (o_move (by conv => lhs; whnf)) ?_
      refine tl_v rfl (o_move (by conv => lhs; whnf)) ?_
      refine tl_c rfl (o_call bd129 rfl (rgoes_f F hr (fun k hm => ⟨low_nn hlow k hm, hk k hm⟩) hkl)) ?_
      rintro _ _ ⟨rfl, rfl⟩
      refine tl_nil ?_
      refine q_then_n ?_
      refine tc_seq ?_
      refine tc_reg ?_
      refine tl_v rfl (o_assign (by conv => lhs; whnf)) ?_
      refine tl_nil ?_
      refine q_then_n ?_
      refine tc_ret ?_
      exact ⟨.int .i64 0, F * RDev r (goesS keep s), res1 rfl rfl, Dr.sat (by repeat (first | with_reducible exact dr_refl | apply dr_keep | apply dr_drop)), rfl, rfl⟩
end Go.Vl

set_option linter.unusedVariables false
set_option linter.unusedSimpArgs false
namespace Go.Vl
open Go Go.Proofs
theorem img_getR {s : DevS} {q : Nat} (hw : WfD s) (hi : q / 64 < s.ls.length) : (imgS s)[q]? = (lb (seenL s.ls[q / 64]))[q % 64]? := by
  have hwl := hw.line _ (List.getElem_mem hi)
  have h8 := seen8 hwl
  have e := img_at hw.line hi
  have h1 : (imgS s)[q]? = ((imgS s).drop (q / 64 * 64))[q % 64]? := by rw [List.getElem?_drop]; congr 1; omega
  rw [h1]; unfold imgS; rw [e, List.getElem?_append_left (by omega)]
theorem fromS_len (n : Nat) (xs : List Nat) : (fromS n xs).ls.length = n := by simp [fromS, newS]
theorem fromS_at {n : Nat} (xs : List Nat) {i : Nat} (h : i < n) : (fromS n xs).ls[i]'(by rw [fromS_len]; exact h) = lineF xs i := by simp [fromS]
attribute [local irreducible] Sl pt ro
theorem rImage_f (A : SP) {r : Nat} {lv av : Value} {rls : List RL} {s : DevS} (hR : RdevR A r lv rls av s) :
    Fn Try.prog 70 #[.pointer (some ⟨r, 0, none⟩)] (A) (fun v B => ∃ X, B = A * X ∧ ∃ a c, v = .slice a (s.ls.length * 64) c ∧ s.ls.length * 64 ≤ c ∧ X = Sl 1 (.slice a (s.ls.length * 64) c) (s.ls.length * 64) (bys (imgS s))) := by
  refine fn_enterW (args := [.pointer (some ⟨r, 0, none⟩)]) Try.func70 rfl Try.ntmps70 (by simp) ?_
  obtain ⟨bl, ol, cl_, rfl, hlc, hlr⟩ := hR.lv
  have hlen := hR.len
  have htop := hR.wf.top
  refine tc_seq ?_
  refine tc_reg ?_
  refine tl_v rfl (o_assign (by conv => lhs; whnf)) ?_
  refine tl_nil ?_
  refine q_then_n ?_
  refine tc_seq ?_
  refine tc_reg ?_
  refine tl_v rfl (o_assign (by conv => lhs; whnf)) ?_
  refine tl_nil ?_
  refine q_then_n ?_
  refine tc_seq ?_
  refine tc_seq ?_
  refine tc_pre (A' := A * Sl 1 (.slice none 0 0) 0 []) (fun _ _ h => sl_nil h) ?_
  refine tc_reg ?_
  refine tl_v rfl (o_assign (by conv => lhs; whnf)) ?_
  refine tl_nil ?_
  refine q_then_n ?_
  refine tc_block ?_
  refine tc_loop (fun kk ρ BB => ∃ (i : Nat) (a3 : Option Addr) (c3 : Nat), (i ≤ s.ls.length) ∧ (i * 64 ≤ c3) ∧ kk = s.ls.length - i ∧ ρ 3 = .slice a3 (i * 64) c3 ∧ ρ 4 = .int .i64 (i : Nat) ∧ ρ 0 = .pointer (some ⟨r, 0, none⟩) ∧ BB = A * Sl 1 (.slice a3 (i * 64) c3) (i * 64) (bys (img (s.ls.take i)))) (m := s.ls.length - (0)) ?_ ?_
  · exact ⟨0, none, 0, by omega, by omega, rfl, rfl, rfl, rfl, rfl⟩
  · intro k ρ B hI
    obtain ⟨i, a3, c3, hp0, hp1, hkk1, hE3, hE4, hE0, rfl⟩ := hI
    refine tc_env (d := 3) hE3 ?_
    refine tc_env (d := 4) hE4 ?_
    refine tc_env (d := 0) hE0 ?_
    clear hE3 hE4 hE0
    refine tc_seq ?_
    refine tc_seq ?_
    refine tc_reg ?_
    refine tl_v rfl (o_move (by conv => lhs; whnf)) ?_
    refine tl_v rfl (o_move (by conv => lhs; whnf)) ?_
    refine tl_v rfl (o_nilCheck rfl) ?_
    refine tl_v rfl (o_fieldAddr (o := 1) Try.underlying91 rfl rfl sz89 rfl) ?_
    refine tl_v rfl (o_ldP (a := some ⟨r, 0, none⟩) (i := 1) p89 rfl (by repeat (first | exact hR.d | apply Rs.left)) rfl) ?_
    refine tl_v rfl (o_len Try.underlying89 rfl) ?_
    refine tl_v rfl (o_lss rfl rfl) ?_
    refine tl_nil ?_
    refine q_then_n ?_
    refine tc_cond rfl (fun h => ?_) (fun h => ?_)
    · have hi : i < s.ls.length := by simp at h; omega
      have hir : i < rls.length := by omega
      obtain ⟨br, orr, cr, ht, hcr, hrr⟩ := hR.top hir hi
      have hs8 := seen8 (hR.wf.line _ (List.getElem_mem hi))
      refine tc_skip ?_
      refine q_then_n ?_
      refine tc_seq ?_
      refine tc_block ?_
      refine tc_reg ?_
      refine tl_v rfl (o_move (by conv => lhs; whnf)) ?_
      refine tl_v rfl (o_move (by conv => lhs; whnf)) ?_
      refine tl_v rfl (o_move (by conv => lhs; whnf)) ?_
      refine tl_c rfl (o_call bd127 rfl (rseen_f _ hR.left hir ht)) ?_
      rintro _ _ ⟨rfl, rfl⟩
      refine tl_x rfl (o_apR Try.underlying28 Try.underlying28 sz5 by5 z5 rfl (by decide) (by decide) rfl rfl (by repeat (first | with_reducible exact ct_here | apply ct_left)) hrr.left (by rw [bys_length, hs8]) (bys_all _) (by omega) rfl) ?_
      rintro _ _ ⟨a18, c18, rfl, hc18, rfl⟩
      refine tl_v rfl (o_assign (by conv => lhs; whnf)) ?_
      refine tl_nil ?_
      refine q_block_n (q_then_n ?_)
      refine tc_reg ?_
      refine tl_v rfl (o_move (by conv => lhs; whnf)) ?_
      refine tl_v rfl (by first | exact o_addI rfl rfl (by omega) | exact o_add rfl rfl) ?_
      refine tl_v rfl (o_assign (by conv => lhs; whnf)) ?_
      refine tl_nil ?_
      refine q_then_n ?_
      exact ⟨_, by omega, i + 1, a18, c18, by omega, by omega, rfl, by show Value.slice a18 (i * 64 + 64) c18 = _; rw [show (i + 1) * 64 = i * 64 + 64 by omega], rfl, rfl, by rw [img_take hi, bys_append, show (i + 1) * 64 = i * 64 + 64 by omega]⟩
    · obtain rfl : i = s.ls.length := by simp at h; omega
      rw [List.take_length]
      refine tc_exit ?_
      refine q_then_e (q_then_e (q_block_x (q_then_n ?_)))
      refine tc_seq ?_
      refine tc_reg ?_
      refine tl_v rfl (o_move (by conv => lhs; whnf)) ?_
      refine tl_v rfl (o_assign (by conv => lhs; whnf)) ?_
      refine tl_nil ?_
      refine q_then_n ?_
      refine tc_ret ?_
      exact ⟨.slice a3 (s.ls.length * 64) c3, _, res1 rfl rfl, fun _ _ h => h, _, rfl, a3, c3, rfl, hp1, rfl⟩
theorem rLoad_f (A : SP) {r : Nat} {lv av : Value} {rls : List RL} {s : DevS} (hR : RdevR A r lv rls av s) {p m : Nat} (hoff : s.off = false) (hpm : p + m ≤ s.ls.length * 64) :
    Fn Try.prog 106 #[.pointer (some ⟨r, 0, none⟩), .int .i64 (p : Nat), .int .i64 (m : Nat)] (A) (fun v B => ∃ X, B = A * X ∧ ∃ a c, v = .tuple #[.slice a m c, .int .i64 0] ∧ m ≤ c ∧ X = Sl 1 (.slice a m c) m (bys (((imgS s).drop p).take m))) := by
  refine fn_enterW (args := [.pointer (some ⟨r, 0, none⟩), .int .i64 (p : Nat), .int .i64 (m : Nat)]) Try.func106 rfl Try.ntmps106 (by simp) ?_
  obtain ⟨bl, ol, cl_, rfl, hlc, hlr⟩ := hR.lv
  have hlen := hR.len
  have htop := hR.wf.top
  have hil := img_length hR.wf.line
  refine tc_seq ?_
  refine tc_reg ?_
  refine tl_v rfl (o_assign (by conv => lhs; whnf)) ?_
  refine tl_v rfl (o_assign (by conv => lhs; whnf)) ?_
  refine tl_nil ?_
  refine q_then_n ?_
  refine tc_seq ?_
  refine tc_seq ?_
  refine tc_reg ?_
  refine tl_v rfl (o_move (by conv => lhs; whnf)) ?_
  refine tl_v rfl (o_nilCheck rfl) ?_
  refine tl_v rfl (o_fieldAddr (o := 5) Try.underlying91 rfl rfl sz4 rfl) ?_
  refine tl_v rfl (o_ldP (a := some ⟨r, 0, none⟩) (i := 5) p4 rfl (by repeat (first | exact hR.d | apply Rs.left)) rfl) ?_
  refine tl_nil ?_
  refine q_then_n ?_
  refine tc_cond rfl (fun h => ?_) (fun h => ?_)
  · exfalso; rw [hoff] at h; cases h
  · try simp only [decide_eq_true_eq, decide_eq_false_iff_not, Bool.not_eq_true', Bool.not_eq_false', Option.isNone_some, Option.isNone_none, Bool.not_true, Bool.not_false] at h
    refine tc_skip ?_
    refine q_then_n ?_
    refine tc_seq ?_
    refine tc_seq ?_
    refine tc_reg ?_
    refine tl_v rfl (o_move (by conv => lhs; whnf)) ?_
    refine tl_v rfl (o_move (by conv => lhs; whnf)) ?_
    refine tl_v rfl (o_move (by conv => lhs; whnf)) ?_
    refine tl_c rfl (o_call bd136 rfl (rinside_f _ hR (by omega) (by omega))) ?_
    rintro _ _ ⟨rfl, rfl⟩
    refine tl_v rfl (o_not rfl) ?_
    refine tl_nil ?_
    refine q_then_n ?_
    refine tc_cond rfl (fun h => ?_) (fun h => ?_)
    · exfalso; simp at h; unfold rdy at h; rw [if_neg (by decide), if_neg (by omega)] at h; exact h rfl
    · try simp only [decide_eq_true_eq, decide_eq_false_iff_not, Bool.not_eq_true', Bool.not_eq_false', Option.isNone_some, Option.isNone_none, Bool.not_true, Bool.not_false] at h
      refine tc_skip ?_
      refine q_then_n ?_
      refine tc_seq ?_
      refine tc_reg ?_
      refine tl_v rfl (o_assign (by conv => lhs; whnf)) ?_
      refine tl_nil ?_
      refine q_then_n ?_
      refine tc_seq ?_
      refine tc_seq ?_
      refine tc_pre (A' := A * Sl 1 (.slice none 0 0) 0 []) (fun _ _ h => sl_nil h) ?_
      refine tc_reg ?_
      refine tl_v rfl (o_move (by conv => lhs; whnf)) ?_
      refine tl_v rfl (o_assign (by conv => lhs; whnf)) ?_
      refine tl_nil ?_
      refine q_then_n ?_
      refine tc_block ?_
      refine tc_loop (fun kk ρ BB => ∃ (j : Nat) (a3 : Option Addr) (c3 : Nat), (j ≤ m) ∧ (j ≤ c3) ∧ kk = m - j ∧ ρ 8 = .slice a3 j c3 ∧ ρ 9 = .int .i64 ((p + j : Nat) : Int) ∧ ρ 0 = .pointer (some ⟨r, 0, none⟩) ∧ ρ 1 = .int .i64 (p : Nat) ∧ ρ 2 = .int .i64 (m : Nat) ∧ BB = A * Sl 1 (.slice a3 j c3) j (bys (((imgS s).drop p).take j))) (m := m - (0)) ?_ ?_
      · exact ⟨0, none, 0, by omega, by omega, rfl, rfl, rfl, rfl, rfl, rfl, rfl⟩
      · intro k ρ B hI
        obtain ⟨j, a3, c3, hp0, hp1, hkk1, hE8, hE9, hE0, hE1, hE2, rfl⟩ := hI
        refine tc_env (d := 8) hE8 ?_
        refine tc_env (d := 9) hE9 ?_
        refine tc_env (d := 0) hE0 ?_
        refine tc_env (d := 1) hE1 ?_
        refine tc_env (d := 2) hE2 ?_
        clear hE8 hE9 hE0 hE1 hE2
        refine tc_seq ?_
        refine tc_seq ?_
        refine tc_reg ?_
        refine tl_v rfl (o_move (by conv => lhs; whnf)) ?_
        refine tl_v rfl (o_move (by conv => lhs; whnf)) ?_
        refine tl_v rfl (o_move (by conv => lhs; whnf)) ?_
        refine tl_v rfl (by first | exact o_addI rfl rfl (by omega) | exact o_add rfl rfl) ?_
        refine tl_v rfl (o_lss rfl rfl) ?_
        refine tl_nil ?_
        refine q_then_n ?_
        refine tc_cond rfl (fun h => ?_) (fun h => ?_)
        · have hj : j < m := by simp at h; omega
          have hi : (p + j) / 64 < s.ls.length := by omega
          have hir : (p + j) / 64 < rls.length := by omega
          obtain ⟨br, orr, cr, ht, hcr, hrr⟩ := hR.top hir hi
          have hs8 := seen8 (hR.wf.line _ (List.getElem_mem hi))
          have hjd : j < ((imgS s).drop p).length := by rw [List.length_drop]; unfold imgS; omega
          have hby : ((imgS s).drop p)[j] = (lb (seenL s.ls[(p + j) / 64]))[(p + j) % 64]'(by omega) := by
            have := img_getR hR.wf hi
            rw [List.getElem?_eq_getElem (show (p + j) % 64 < (lb (seenL s.ls[(p + j) / 64])).length by omega), ← List.getElem?_drop, List.getElem?_eq_getElem hjd] at this
            exact Option.some.inj this
          refine tc_skip ?_
          refine q_then_n ?_
          refine tc_seq ?_
          refine tc_block ?_
          refine tc_reg ?_
          refine tl_v rfl (o_move (by conv => lhs; whnf)) ?_
          refine tl_v rfl (o_move (by conv => lhs; whnf)) ?_
          refine tl_v rfl (o_move (by conv => lhs; whnf)) ?_
          refine tl_v rfl (o_quoN (b := 64) rfl rfl (by omega)) ?_
          refine tl_c rfl (o_call bd127 rfl (rseen_f _ hR.left (i := (p + j) / 64) hir ht)) ?_
          rintro _ _ ⟨rfl, rfl⟩
          refine tl_v rfl (o_move (by conv => lhs; whnf)) ?_
          refine tl_v rfl (o_remN (b := 64) rfl rfl (by omega)) ?_
          refine tl_v rfl (o_ixP1 Try.underlying28 sz5 rfl rfl (by first | omega | (simp only [bys_length, ints_length, wds_length, bos_length, List.length_append, List.length_take, List.length_drop, List.length_singleton]; omega)) (by repeat (first | exact nn_some | with_reducible exact nn_sl (by decide) | exact nn_rs (by assumption) (fun _ => by first | omega | (simp only [bys_length, ints_length, wds_length, bos_length, List.length_append, List.length_take, List.length_drop, List.length_singleton]; omega)) | apply Nn.left))) ?_
          refine tl_v rfl (o_ldP p5 rfl hrr.left (bys_at (by omega))) ?_
          refine tl_x rfl (o_buildSlice1 Try.underlying28 sz5 z5 (by conv => lhs; whnf) rfl) ?_
          rintro _ _ ⟨b36, rfl, rfl⟩
          refine tl_x rfl (o_apB Try.underlying28 Try.underlying28 sz5 by5 z5 rfl (by decide) (by decide) rfl rfl rfl (by repeat (first | with_reducible exact ct_here | apply ct_left)) rfl (by first | exact bys_all _ | exact ints_all _ | exact wds_all _ | exact bos_all _ | rfl) (by first | omega | (simp only [bys_length, ints_length, wds_length, bos_length, List.length_append, List.length_take, List.length_drop, List.length_singleton]; omega)) (by first | exact bys_sn _ _ | exact ints_sn _ _ | exact wds_sn _ _ | exact bos_sn _ _ | exact (bys_append _ _).symm | rfl)) ?_
          rintro _ _ ⟨a37, c37, rfl, hc37, rfl⟩
          refine tl_v rfl (o_assign (by conv => lhs; whnf)) ?_
          refine tl_nil ?_
          refine q_block_n (q_then_n ?_)
          refine tc_reg ?_
          refine tl_v rfl (o_move (by conv => lhs; whnf)) ?_
          refine tl_v rfl (by first | exact o_addI rfl rfl (by omega) | exact o_add rfl rfl) ?_
          refine tl_env (d := 26) (v := .int .i64 ((p + (j + 1) : Nat) : Int)) (rfl) ?_
          refine tl_v rfl (o_assign (by conv => lhs; whnf)) ?_
          refine tl_nil ?_
          refine q_then_n ?_
          exact ⟨_, by omega, j + 1, a37, c37, by omega, by omega, rfl, rfl, rfl, rfl, rfl, rfl, by rw [List.take_succ_eq_append_getElem hjd, hby]⟩
        · obtain rfl : j = m := by simp at h; omega
          refine tc_exit ?_
          refine q_then_e (q_then_e (q_block_x (q_then_n ?_)))
          refine tc_seq ?_
          refine tc_reg ?_
          refine tl_v rfl (o_move (by conv => lhs; whnf)) ?_
          refine tl_v rfl (o_assign (by conv => lhs; whnf)) ?_
          refine tl_v rfl (o_assign (by conv => lhs; whnf)) ?_
          refine tl_nil ?_
          refine q_then_n ?_
          refine tc_ret ?_
          exact ⟨.tuple #[.slice a3 j c3, .int .i64 0], _, res2 rfl rfl rfl, fun _ _ h => h, _, rfl, a3, c3, rfl, hp1, rfl⟩
theorem rFromNo_c {F : SP} {a : Option Addr} {c m : Nat} (hno : fitsB (m : Int) = false := by assumption) :
    Fn Try.prog 65 #[.slice a m c] (F) (fun v B => v = .tuple #[.pointer none, .int .i64 80] ∧ F = B) := by
  refine fn_enterW (args := [.slice a m c]) Try.func65 rfl Try.ntmps65 (by simp) ?_
  refine tc_seq ?_
  refine tc_reg ?_
  refine tl_v rfl (o_assign (by conv => lhs; whnf)) ?_
  refine tl_v rfl (o_assign (by conv => lhs; whnf)) ?_
  refine tl_nil ?_
  refine q_then_n ?_
  refine tc_seq ?_
  refine tc_seq ?_
  refine tc_reg ?_
  refine tl_v rfl (o_move (by conv => lhs; whnf)) ?_
  refine tl_v rfl (o_len Try.underlying28 rfl) ?_
  refine tl_c rfl (o_call bd125 rfl (rfits_c (p := (m : Nat)))) ?_
  rintro _ _ ⟨rfl, rfl⟩
  refine tl_v rfl (o_not rfl) ?_
  refine tl_nil ?_
  refine q_then_n ?_
  refine tc_cond rfl (fun h => ?_) (fun h => ?_)
  · try simp only [decide_eq_true_eq, decide_eq_false_iff_not, Bool.not_eq_true', Bool.not_eq_false', Option.isNone_some, Option.isNone_none, Bool.not_true, Bool.not_false] at h
    refine tc_seq ?_
    refine tc_reg ?_
    refine tl_v rfl (o_assign (by conv => lhs; whnf)) ?_
    refine tl_v rfl (o_assign (by conv => lhs; whnf)) ?_
    refine tl_nil ?_
    refine q_then_n ?_
    refine tc_ret ?_
    refine q_then_r ?_
    refine ⟨.tuple #[.pointer none, .int .i64 80], _, res2 rfl rfl rfl, ?_, rfl, rfl⟩
    exact Dr.sat (by repeat (first | with_reducible exact dr_refl | apply dr_keep | apply dr_drop))
  · exfalso; simp [hno] at h
set_option maxRecDepth 20000 in
set_option maxHeartbeats 1000000 in
theorem rFrom_c {F : SP} {a : Option Addr} {c m : Nat} {xs : List Nat} (n : Nat) (hr : Rs F a (bys xs) := by repeat (first | assumption | with_reducible exact rs_sl | with_reducible exact rs_pt0 | exact rs_none | apply Rs.left)) (hx : xs.length = m := by first | assumption | rfl) (hm : m = n * 64 := by omega) (hmc : m ≤ c := by omega) (hb : ∀ x ∈ xs, x < 256 := by assumption) (hn : 0 < n := by omega) (hn2 : n ≤ 65536 := by omega) :
    Fn Try.prog 65 #[.slice a m c] (F) (fun v B => ∃ d, v = .tuple #[.pointer (some ⟨d, 0, none⟩), .int .i64 0] ∧ B = F * RDev d (fromS n xs)) := by
  refine fn_enterW (args := [.slice a m c]) Try.func65 rfl Try.ntmps65 (by simp) ?_
  have hfit : fitsB (m : Int) = true := by unfold fitsB; simp; omega
  refine tc_seq ?_
  refine tc_reg ?_
  refine tl_v rfl (o_assign (by conv => lhs; whnf)) ?_
  refine tl_v rfl (o_assign (by conv => lhs; whnf)) ?_
  refine tl_nil ?_
  refine q_then_n ?_
  refine tc_seq ?_
  refine tc_seq ?_
  refine tc_reg ?_
  refine tl_v rfl (o_move (by conv => lhs; whnf)) ?_
  refine tl_v rfl (o_len Try.underlying28 rfl) ?_
  refine tl_c rfl (o_call bd125 rfl (rfits_c (p := (m : Nat)))) ?_
  rintro _ _ ⟨rfl, rfl⟩
  refine tl_v rfl (o_not rfl) ?_
  refine tl_nil ?_
  refine q_then_n ?_
  refine tc_cond rfl (fun h => ?_) (fun h => ?_)
  · exfalso; rw [hfit] at h; exact absurd h (by decide)
  · try simp only [decide_eq_true_eq, decide_eq_false_iff_not, Bool.not_eq_true', Bool.not_eq_false', Option.isNone_some, Option.isNone_none, Bool.not_true, Bool.not_false] at h
    refine tc_skip ?_
    refine q_then_n ?_
    refine tc_seq ?_
    refine tc_reg ?_
    refine tl_v rfl (o_move (by conv => lhs; whnf)) ?_
    refine tl_v rfl (o_len Try.underlying28 rfl) ?_
    refine tl_v rfl (o_bS (l := [.int .i64 (m : Nat), .slice none 0 0, .int .i64 0, .slice none 0 0, .int .i64 0, .bool false]) (pv_cons (by conv => lhs; whnf) pv_nil) Try.underlying91 z91 (pl91 Try.underlying91) rfl) ?_
    refine tl_x rfl (o_box rfl rfl) ?_
    rintro _ _ ⟨b13, rfl, rfl⟩
    refine tl_pre (A' := F * Bs rlR [] * pt b13 (cl ([.int .i64 ((n * 64 : Nat) : Int), .slice none 0 0, .int .i64 0, .slice none 0 0, .int .i64 0, .bool false]) 91) * Sl 2 (.slice none 0 0) 0 []) (fun _ _ h => sl_nil (by rw [bs_nil, star_emp, ← hm]; exact h)) ?_
    refine tl_v rfl (o_assign (by conv => lhs; whnf)) ?_
    refine tl_nil ?_
    refine q_then_n ?_
    refine tc_seq ?_
    refine tc_seq ?_
    refine tc_reg ?_
    refine tl_v rfl (o_assign (by conv => lhs; whnf)) ?_
    refine tl_nil ?_
    refine q_then_n ?_
    refine tc_block ?_
    refine tc_loop (fun kk ρ BB => ∃ (i : Nat) (aL : Option Addr) (cL : Nat) (rls1 : List RL), (i ≤ n) ∧ (rls1.map RL.l = (fromS n xs).ls.take i) ∧ kk = n - i ∧ ρ 5 = .int .i64 ((i * 64 : Nat) : Int) ∧ ρ 0 = .slice a m c ∧ ρ 4 = .pointer (some ⟨b13, 0, none⟩) ∧ BB = F * Bs rlR rls1 * pt b13 (cl ([.int .i64 ((n * 64 : Nat) : Int), .slice aL i cL, .int .i64 0, .slice none 0 0, .int .i64 0, .bool false]) 91) * Sl 2 (.slice aL i cL) i (rls1.flatMap rcl)) (m := n - (0)) ?_ ?_
    · exact ⟨0, none, 0, [], by omega, rfl, rfl, rfl, rfl, rfl, rfl⟩
    · intro k ρ B hI
      obtain ⟨i, aL, cL, rls1, hp0, hp1, hkk1, hE5, hE0, hE4, rfl⟩ := hI
      refine tc_env (d := 5) hE5 ?_
      refine tc_env (d := 0) hE0 ?_
      refine tc_env (d := 4) hE4 ?_
      clear hE5 hE0 hE4
      refine tc_seq ?_
      refine tc_seq ?_
      refine tc_reg ?_
      refine tl_v rfl (o_move (by conv => lhs; whnf)) ?_
      refine tl_v rfl (o_move (by conv => lhs; whnf)) ?_
      refine tl_v rfl (o_len Try.underlying28 rfl) ?_
      refine tl_v rfl (o_lss rfl rfl) ?_
      refine tl_nil ?_
      refine q_then_n ?_
      refine tc_cond rfl (fun h => ?_) (fun h => ?_)
      · have hi : i < n := by simp at h; omega
        have hrl : rls1.length = i := by have := congrArg List.length hp1; rw [List.length_map, List.length_take, fromS_len] at this; omega
        have hxl : ((xs.drop (i * 64)).take 64).length = 64 := by rw [List.length_take, List.length_drop]; omega
        have hlf := lineF_lb hb (show i * 64 + 64 ≤ xs.length by omega)
        refine tc_skip ?_
        refine q_then_n ?_
        refine tc_seq ?_
        refine tc_block ?_
        refine tc_regh (S := F * Bs rlR rls1) mo (by repeat (first | with_reducible exact dr_refl | apply dr_keep | apply dr_drop)) ?_
        show TH _ _ _ _ _ 18 #[false, false, false, false, false, false, false, false, false, false, false, false, false, false, false, false, false, false] _ _
        refine th_take (i := 0) (listed' := #[true, false, false, false, false, false, false, false, false, false, false, false, false, false, false, false, false, false]) rfl (by kernel_rfl) (by kernel_rfl) (by kernel_rfl) rfl rfl (o_move (by conv => lhs; whnf)) ?_
        refine th_take (i := 1) (listed' := #[true, true, false, false, false, false, false, false, false, false, false, false, false, false, false, false, false, false]) rfl (by kernel_rfl) (by kernel_rfl) (by kernel_rfl) rfl rfl (o_move (by conv => lhs; whnf)) ?_
        refine th_take (i := 2) (listed' := #[true, true, true, false, false, false, false, false, false, false, false, false, false, false, false, false, false, false]) rfl (by kernel_rfl) (by kernel_rfl) (by kernel_rfl) rfl rfl (o_nilCheck rfl) ?_
        refine th_take (i := 3) (listed' := #[true, true, true, true, false, false, false, false, false, false, false, false, false, false, false, false, false, false]) rfl (by kernel_rfl) (by kernel_rfl) (by kernel_rfl) rfl rfl (o_fieldAddr (o := 1) Try.underlying91 rfl rfl sz89 rfl) ?_
        refine th_take (i := 5) (listed' := #[true, true, true, true, false, true, false, false, false, false, false, false, false, false, false, false, false, false]) rfl (by kernel_rfl) (by kernel_rfl) (by kernel_rfl) rfl rfl (o_move (by conv => lhs; whnf)) ?_
        refine th_take (i := 6) (listed' := #[true, true, true, true, false, true, true, false, false, false, false, false, false, false, false, false, false, false]) rfl (by kernel_rfl) (by kernel_rfl) (by kernel_rfl) rfl rfl (o_move (by conv => lhs; whnf)) ?_
        refine th_take (i := 7) (listed' := #[true, true, true, true, false, true, true, true, false, false, false, false, false, false, false, false, false, false]) rfl (by kernel_rfl) (by kernel_rfl) (by kernel_rfl) rfl rfl (o_move (by conv => lhs; whnf)) ?_
        refine th_take (i := 8) (listed' := #[true, true, true, true, false, true, true, true, true, false, false, false, false, false, false, false, false, false]) rfl (by kernel_rfl) (by kernel_rfl) (by kernel_rfl) rfl rfl (o_addI rfl rfl (by omega)) ?_
        refine th_env (d := 28) (v := .int .i64 ((i * 64 + 64 : Nat) : Int)) (rfl) ?_
        refine th_take (i := 9) (listed' := #[true, true, true, true, false, true, true, true, true, true, false, false, false, false, false, false, false, false]) rfl (by kernel_rfl) (by kernel_rfl) (by kernel_rfl) rfl rfl (o_slice (l := i * 64) (h := i * 64 + 64) Try.underlying28 sz5 rfl (bnd_nat rfl) (bnd_nat rfl) (by omega) (by omega)) ?_
        refine th_env (d := 29) (v := .slice (cutAddr a c (i * 64) 1) 64 (c - i * 64)) (by show Value.slice _ (i * 64 + 64 - i * 64) _ = _; rw [Nat.add_sub_cancel_left]) ?_
        refine th_two (i := 4) (j := 10) (by kernel_rfl) ?_ ?_
        · skip
          refine oh_v (i := 4) (listed' := #[true, true, true, true, true, true, true, true, true, true, false, false, false, false, false, false, false, false]) rfl rfl rfl (o_load p89 rfl (by repeat (first | with_reducible exact has_here | with_reducible exact has_pt | apply has_left)) rfl) ?_
          refine th_one (i := 10) (by kernel_rfl) ?_
          refine oh_c (i := 10) (listed' := #[true, true, true, true, true, true, true, true, true, true, true, false, false, false, false, false, false, false]) rfl rfl rfl (o_call bd39 rfl (CopyBytes_c (xs := (xs.drop (i * 64)).take 64) (hr := (by repeat (first | exact rs_mid hr (by omega) | apply Rs.left))) (hm := hxl))) ?_
          rintro _ _ ⟨a30, c30, rfl, hc30, rfl⟩
          refine ⟨by repeat (first | with_reducible exact dr_refl | apply dr_keep | apply dr_drop), ?_⟩
          refine th_one (i := 11) (by kernel_rfl) ?_
          refine oh_x (i := 11) (listed' := #[true, true, true, true, true, true, true, true, true, true, true, true, false, false, false, false, false, false]) rfl rfl rfl (o_buildSlice1 Try.underlying33 sz28 z28 rfl rfl) ?_
          rintro _ _ ⟨b31, rfl, rfl⟩
          refine ⟨by repeat (first | with_reducible exact dr_refl | apply dr_keep | apply dr_drop), ?_⟩
          refine th_take (i := 12) (listed' := #[true, true, true, true, true, true, true, true, true, true, true, true, true, false, false, false, false, false]) rfl (by kernel_rfl) (by kernel_rfl) (by kernel_rfl) rfl rfl (o_bS (l := [_, _]) (pv_cons (by conv => lhs; whnf) (pv_cons (by conv => lhs; whnf) pv_nil)) Try.underlying176 z176 (pl176 Try.underlying176) rfl) ?_
          refine th_one (i := 13) (by kernel_rfl) ?_
          refine oh_x (i := 13) (listed' := #[true, true, true, true, true, true, true, true, true, true, true, true, true, true, false, false, false, false]) rfl rfl rfl (o_buildSliceK (k := 2) (l := [.slice (some ⟨b31, 0, none⟩) 1 1, .int .i64 (-1)]) Try.underlying89 sz176 z176 rfl rfl (by decide)) ?_
          rintro _ _ ⟨b33, rfl, rfl⟩
          refine ⟨by repeat (first | with_reducible exact dr_refl | apply dr_keep | apply dr_drop), ?_⟩
          refine th_one (i := 14) (by kernel_rfl) ?_
          refine oh_x (i := 14) (listed' := #[true, true, true, true, true, true, true, true, true, true, true, true, true, true, true, false, false, false]) rfl rfl rfl (o_apB Try.underlying89 Try.underlying89 sz176 by176 z176 rfl (by decide) (by decide) rfl rfl rfl (by repeat (first | with_reducible exact ct_here | apply ct_left)) rfl rfl (by omega) (fm_sn rls1 ((⟨.slice (some ⟨b31, 0, none⟩) 1 1, [(.slice a30 64 c30, seenL (lineF xs i))], -1⟩ : RL)))) ?_
          rintro _ _ ⟨a34, c34, rfl, hc34, rfl⟩
          refine ⟨by repeat (first | with_reducible exact dr_refl | apply dr_keep | apply dr_drop), ?_⟩
          refine th_take (i := 15) (listed' := #[true, true, true, true, true, true, true, true, true, true, true, true, true, true, true, true, false, false]) rfl (by kernel_rfl) (by kernel_rfl) (by kernel_rfl) rfl rfl (o_nilCheck rfl) ?_
          refine th_take (i := 16) (listed' := #[true, true, true, true, true, true, true, true, true, true, true, true, true, true, true, true, true, false]) rfl (by kernel_rfl) (by kernel_rfl) (by kernel_rfl) rfl rfl (o_fieldAddr (o := 1) Try.underlying91 rfl rfl sz89 rfl) ?_
          refine th_one (i := 17) (by kernel_rfl) ?_
          refine oh_u (i := 17) (listed' := #[true, true, true, true, true, true, true, true, true, true, true, true, true, true, true, true, true, true]) rfl rfl rfl (o_stU (l' := [.int .i64 ((n * 64 : Nat) : Int), .slice a34 (i + 1) c34, .int .i64 0, .slice none 0 0, .int .i64 0, .bool false]) rfl (by repeat (first | with_reducible exact upd_here | with_reducible exact upd_pt | apply upd_left)) sz89 rfl rfl (by show 1 < 6; decide) rfl) (by repeat (first | with_reducible exact dr_refl | apply dr_keep | apply dr_drop)) ?_
          refine th_done (by kernel_rfl) ?_
          refine q_block_n (q_then_n ?_)
          have hnext : (rls1 ++ [(⟨.slice (some ⟨b31, 0, none⟩) 1 1, [(.slice a30 64 c30, seenL (lineF xs i))], -1⟩ : RL)]).map RL.l = (fromS n xs).ls.take (i + 1) := by
            rw [List.map_append, hp1, List.take_succ_eq_append_getElem (by rw [fromS_len]; exact hi), fromS_at xs hi]; rfl
          refine tc_pre (A' := F * Bs rlR (rls1 ++ [(⟨.slice (some ⟨b31, 0, none⟩) 1 1, [(.slice a30 64 c30, seenL (lineF xs i))], -1⟩ : RL)]) * pt b13 (cl ([.int .i64 ((n * 64 : Nat) : Int), .slice a34 (i + 1) c34, .int .i64 0, .slice none 0 0, .int .i64 0, .bool false]) 91) * Sl 2 (.slice a34 (i + 1) c34) (i + 1) ((rls1 ++ [(⟨.slice (some ⟨b31, 0, none⟩) 1 1, [(.slice a30 64 c30, seenL (lineF xs i))], -1⟩ : RL)]).flatMap rcl)) (fun _ _ h => ?_) ?_
          · have e : rlR (⟨.slice (some ⟨b31, 0, none⟩) 1 1, [(.slice a30 64 c30, seenL (lineF xs i))], -1⟩ : RL) = Sl 1 (.slice (some ⟨b31, 0, none⟩) 1 1) 1 [.slice a30 64 c30] * SlR 1 (.slice a30 64 c30) 64 (bys ((xs.drop (i * 64)).take 64)) := by
              show Sl 1 _ 1 [_] * Bs rowR [_] = _
              rw [bs_cons, bs_nil, emp_star]
              show _ * SlR 1 _ 64 (bys (lb (seenL (lineF xs i)))) = _
              rw [hlf]
            rw [bs_snoc, e]
            have h1 := sl_share (h.perm (show _ = F * Bs rlR rls1 * pt b13 (cl ([.int .i64 ((n * 64 : Nat) : Int), .slice a34 (i + 1) c34, .int .i64 0, .slice none 0 0, .int .i64 0, .bool false]) 91) * Sl 2 (.slice a34 (i + 1) c34) (i + 1) ((rls1 ++ [(⟨.slice (some ⟨b31, 0, none⟩) 1 1, [(.slice a30 64 c30, seenL (lineF xs i))], -1⟩ : RL)]).flatMap rcl) * pt b31 (cl [.slice a30 64 c30] 28) * Sl 1 (.slice a30 64 c30) 64 (bys ((xs.drop (i * 64)).take 64)) by ac_rfl))
            have h2 := sl_new (k := 1) (n := 1) (cap := 1) (xs := [.slice a30 64 c30]) (h1.perm (star_swap _ _ _)) (by decide) (Nat.le_refl _) rfl
            exact h2.perm (by ac_rfl)
          refine tc_reg ?_
          refine tl_v rfl (o_move (by conv => lhs; whnf)) ?_
          refine tl_v rfl (by first | exact o_addI rfl rfl (by omega) | exact o_add rfl rfl) ?_
          refine tl_env (d := 19) (v := .int .i64 (((i + 1) * 64 : Nat) : Int)) (by show Value.int .i64 _ = _; congr 1; omega) ?_
          refine tl_v rfl (o_assign (by conv => lhs; whnf)) ?_
          refine tl_nil ?_
          refine q_then_n ?_
          exact ⟨_, by omega, i + 1, a34, c34, rls1 ++ [(⟨.slice (some ⟨b31, 0, none⟩) 1 1, [(.slice a30 64 c30, seenL (lineF xs i))], -1⟩ : RL)], by omega, hnext, rfl, rfl, rfl, rfl, rfl⟩
        · skip
          refine oh_c (i := 10) (listed' := #[true, true, true, true, false, true, true, true, true, true, true, false, false, false, false, false, false, false]) rfl rfl rfl (o_call bd39 rfl (CopyBytes_c (xs := (xs.drop (i * 64)).take 64) (hr := (by repeat (first | exact rs_mid hr (by omega) | apply Rs.left))) (hm := hxl))) ?_
          rintro _ _ ⟨a30, c30, rfl, hc30, rfl⟩
          refine ⟨by repeat (first | with_reducible exact dr_refl | apply dr_keep | apply dr_drop), ?_⟩
          refine th_two (i := 4) (j := 11) (by kernel_rfl) ?_ ?_
          · skip
            refine oh_v (i := 4) (listed' := #[true, true, true, true, true, true, true, true, true, true, true, false, false, false, false, false, false, false]) rfl rfl rfl (o_load p89 rfl (by repeat (first | with_reducible exact has_here | with_reducible exact has_pt | apply has_left)) rfl) ?_
            refine th_one (i := 11) (by kernel_rfl) ?_
            refine oh_x (i := 11) (listed' := #[true, true, true, true, true, true, true, true, true, true, true, true, false, false, false, false, false, false]) rfl rfl rfl (o_buildSlice1 Try.underlying33 sz28 z28 rfl rfl) ?_
            rintro _ _ ⟨b31, rfl, rfl⟩
            refine ⟨by repeat (first | with_reducible exact dr_refl | apply dr_keep | apply dr_drop), ?_⟩
            refine th_take (i := 12) (listed' := #[true, true, true, true, true, true, true, true, true, true, true, true, true, false, false, false, false, false]) rfl (by kernel_rfl) (by kernel_rfl) (by kernel_rfl) rfl rfl (o_bS (l := [_, _]) (pv_cons (by conv => lhs; whnf) (pv_cons (by conv => lhs; whnf) pv_nil)) Try.underlying176 z176 (pl176 Try.underlying176) rfl) ?_
            refine th_one (i := 13) (by kernel_rfl) ?_
            refine oh_x (i := 13) (listed' := #[true, true, true, true, true, true, true, true, true, true, true, true, true, true, false, false, false, false]) rfl rfl rfl (o_buildSliceK (k := 2) (l := [.slice (some ⟨b31, 0, none⟩) 1 1, .int .i64 (-1)]) Try.underlying89 sz176 z176 rfl rfl (by decide)) ?_
            rintro _ _ ⟨b33, rfl, rfl⟩
            refine ⟨by repeat (first | with_reducible exact dr_refl | apply dr_keep | apply dr_drop), ?_⟩
            refine th_one (i := 14) (by kernel_rfl) ?_
            refine oh_x (i := 14) (listed' := #[true, true, true, true, true, true, true, true, true, true, true, true, true, true, true, false, false, false]) rfl rfl rfl (o_apB Try.underlying89 Try.underlying89 sz176 by176 z176 rfl (by decide) (by decide) rfl rfl rfl (by repeat (first | with_reducible exact ct_here | apply ct_left)) rfl rfl (by omega) (fm_sn rls1 ((⟨.slice (some ⟨b31, 0, none⟩) 1 1, [(.slice a30 64 c30, seenL (lineF xs i))], -1⟩ : RL)))) ?_
            rintro _ _ ⟨a34, c34, rfl, hc34, rfl⟩
            refine ⟨by repeat (first | with_reducible exact dr_refl | apply dr_keep | apply dr_drop), ?_⟩
            refine th_take (i := 15) (listed' := #[true, true, true, true, true, true, true, true, true, true, true, true, true, true, true, true, false, false]) rfl (by kernel_rfl) (by kernel_rfl) (by kernel_rfl) rfl rfl (o_nilCheck rfl) ?_
            refine th_take (i := 16) (listed' := #[true, true, true, true, true, true, true, true, true, true, true, true, true, true, true, true, true, false]) rfl (by kernel_rfl) (by kernel_rfl) (by kernel_rfl) rfl rfl (o_fieldAddr (o := 1) Try.underlying91 rfl rfl sz89 rfl) ?_
            refine th_one (i := 17) (by kernel_rfl) ?_
            refine oh_u (i := 17) (listed' := #[true, true, true, true, true, true, true, true, true, true, true, true, true, true, true, true, true, true]) rfl rfl rfl (o_stU (l' := [.int .i64 ((n * 64 : Nat) : Int), .slice a34 (i + 1) c34, .int .i64 0, .slice none 0 0, .int .i64 0, .bool false]) rfl (by repeat (first | with_reducible exact upd_here | with_reducible exact upd_pt | apply upd_left)) sz89 rfl rfl (by show 1 < 6; decide) rfl) (by repeat (first | with_reducible exact dr_refl | apply dr_keep | apply dr_drop)) ?_
            refine th_done (by kernel_rfl) ?_
            refine q_block_n (q_then_n ?_)
            have hnext : (rls1 ++ [(⟨.slice (some ⟨b31, 0, none⟩) 1 1, [(.slice a30 64 c30, seenL (lineF xs i))], -1⟩ : RL)]).map RL.l = (fromS n xs).ls.take (i + 1) := by
              rw [List.map_append, hp1, List.take_succ_eq_append_getElem (by rw [fromS_len]; exact hi), fromS_at xs hi]; rfl
            refine tc_pre (A' := F * Bs rlR (rls1 ++ [(⟨.slice (some ⟨b31, 0, none⟩) 1 1, [(.slice a30 64 c30, seenL (lineF xs i))], -1⟩ : RL)]) * pt b13 (cl ([.int .i64 ((n * 64 : Nat) : Int), .slice a34 (i + 1) c34, .int .i64 0, .slice none 0 0, .int .i64 0, .bool false]) 91) * Sl 2 (.slice a34 (i + 1) c34) (i + 1) ((rls1 ++ [(⟨.slice (some ⟨b31, 0, none⟩) 1 1, [(.slice a30 64 c30, seenL (lineF xs i))], -1⟩ : RL)]).flatMap rcl)) (fun _ _ h => ?_) ?_
            · have e : rlR (⟨.slice (some ⟨b31, 0, none⟩) 1 1, [(.slice a30 64 c30, seenL (lineF xs i))], -1⟩ : RL) = Sl 1 (.slice (some ⟨b31, 0, none⟩) 1 1) 1 [.slice a30 64 c30] * SlR 1 (.slice a30 64 c30) 64 (bys ((xs.drop (i * 64)).take 64)) := by
                show Sl 1 _ 1 [_] * Bs rowR [_] = _
                rw [bs_cons, bs_nil, emp_star]
                show _ * SlR 1 _ 64 (bys (lb (seenL (lineF xs i)))) = _
                rw [hlf]
              rw [bs_snoc, e]
              have h1 := sl_share (h.perm (show _ = F * Bs rlR rls1 * pt b13 (cl ([.int .i64 ((n * 64 : Nat) : Int), .slice a34 (i + 1) c34, .int .i64 0, .slice none 0 0, .int .i64 0, .bool false]) 91) * Sl 2 (.slice a34 (i + 1) c34) (i + 1) ((rls1 ++ [(⟨.slice (some ⟨b31, 0, none⟩) 1 1, [(.slice a30 64 c30, seenL (lineF xs i))], -1⟩ : RL)]).flatMap rcl) * pt b31 (cl [.slice a30 64 c30] 28) * Sl 1 (.slice a30 64 c30) 64 (bys ((xs.drop (i * 64)).take 64)) by ac_rfl))
              have h2 := sl_new (k := 1) (n := 1) (cap := 1) (xs := [.slice a30 64 c30]) (h1.perm (star_swap _ _ _)) (by decide) (Nat.le_refl _) rfl
              exact h2.perm (by ac_rfl)
            refine tc_reg ?_
            refine tl_v rfl (o_move (by conv => lhs; whnf)) ?_
            refine tl_v rfl (by first | exact o_addI rfl rfl (by omega) | exact o_add rfl rfl) ?_
            refine tl_env (d := 19) (v := .int .i64 (((i + 1) * 64 : Nat) : Int)) (by show Value.int .i64 _ = _; congr 1; omega) ?_
            refine tl_v rfl (o_assign (by conv => lhs; whnf)) ?_
            refine tl_nil ?_
            refine q_then_n ?_
            exact ⟨_, by omega, i + 1, a34, c34, rls1 ++ [(⟨.slice (some ⟨b31, 0, none⟩) 1 1, [(.slice a30 64 c30, seenL (lineF xs i))], -1⟩ : RL)], by omega, hnext, rfl, rfl, rfl, rfl, rfl⟩
          · skip
            refine oh_x (i := 11) (listed' := #[true, true, true, true, false, true, true, true, true, true, true, true, false, false, false, false, false, false]) rfl rfl rfl (o_buildSlice1 Try.underlying33 sz28 z28 rfl rfl) ?_
            rintro _ _ ⟨b31, rfl, rfl⟩
            refine ⟨by repeat (first | with_reducible exact dr_refl | apply dr_keep | apply dr_drop), ?_⟩
            refine th_take (i := 12) (listed' := #[true, true, true, true, false, true, true, true, true, true, true, true, true, false, false, false, false, false]) rfl (by kernel_rfl) (by kernel_rfl) (by kernel_rfl) rfl rfl (o_bS (l := [_, _]) (pv_cons (by conv => lhs; whnf) (pv_cons (by conv => lhs; whnf) pv_nil)) Try.underlying176 z176 (pl176 Try.underlying176) rfl) ?_
            refine th_two (i := 4) (j := 13) (by kernel_rfl) ?_ ?_
            · skip
              refine oh_v (i := 4) (listed' := #[true, true, true, true, true, true, true, true, true, true, true, true, true, false, false, false, false, false]) rfl rfl rfl (o_load p89 rfl (by repeat (first | with_reducible exact has_here | with_reducible exact has_pt | apply has_left)) rfl) ?_
              refine th_one (i := 13) (by kernel_rfl) ?_
              refine oh_x (i := 13) (listed' := #[true, true, true, true, true, true, true, true, true, true, true, true, true, true, false, false, false, false]) rfl rfl rfl (o_buildSliceK (k := 2) (l := [.slice (some ⟨b31, 0, none⟩) 1 1, .int .i64 (-1)]) Try.underlying89 sz176 z176 rfl rfl (by decide)) ?_
              rintro _ _ ⟨b33, rfl, rfl⟩
              refine ⟨by repeat (first | with_reducible exact dr_refl | apply dr_keep | apply dr_drop), ?_⟩
              refine th_one (i := 14) (by kernel_rfl) ?_
              refine oh_x (i := 14) (listed' := #[true, true, true, true, true, true, true, true, true, true, true, true, true, true, true, false, false, false]) rfl rfl rfl (o_apB Try.underlying89 Try.underlying89 sz176 by176 z176 rfl (by decide) (by decide) rfl rfl rfl (by repeat (first | with_reducible exact ct_here | apply ct_left)) rfl rfl (by omega) (fm_sn rls1 ((⟨.slice (some ⟨b31, 0, none⟩) 1 1, [(.slice a30 64 c30, seenL (lineF xs i))], -1⟩ : RL)))) ?_
              rintro _ _ ⟨a34, c34, rfl, hc34, rfl⟩
              refine ⟨by repeat (first | with_reducible exact dr_refl | apply dr_keep | apply dr_drop), ?_⟩
              refine th_take (i := 15) (listed' := #[true, true, true, true, true, true, true, true, true, true, true, true, true, true, true, true, false, false]) rfl (by kernel_rfl) (by kernel_rfl) (by kernel_rfl) rfl rfl (o_nilCheck rfl) ?_
              refine th_take (i := 16) (listed' := #[true, true, true, true, true, true, true, true, true, true, true, true, true, true, true, true, true, false]) rfl (by kernel_rfl) (by kernel_rfl) (by kernel_rfl) rfl rfl (o_fieldAddr (o := 1) Try.underlying91 rfl rfl sz89 rfl) ?_
              refine th_one (i := 17) (by kernel_rfl) ?_
              refine oh_u (i := 17) (listed' := #[true, true, true, true, true, true, true, true, true, true, true, true, true, true, true, true, true, true]) rfl rfl rfl (o_stU (l' := [.int .i64 ((n * 64 : Nat) : Int), .slice a34 (i + 1) c34, .int .i64 0, .slice none 0 0, .int .i64 0, .bool false]) rfl (by repeat (first | with_reducible exact upd_here | with_reducible exact upd_pt | apply upd_left)) sz89 rfl rfl (by show 1 < 6; decide) rfl) (by repeat (first | with_reducible exact dr_refl | apply dr_keep | apply dr_drop)) ?_
              refine th_done (by kernel_rfl) ?_
              refine q_block_n (q_then_n ?_)
              have hnext : (rls1 ++ [(⟨.slice (some ⟨b31, 0, none⟩) 1 1, [(.slice a30 64 c30, seenL (lineF xs i))], -1⟩ : RL)]).map RL.l = (fromS n xs).ls.take (i + 1) := by
                rw [List.map_append, hp1, List.take_succ_eq_append_getElem (by rw [fromS_len]; exact hi), fromS_at xs hi]; rfl
              refine tc_pre (A' := F * Bs rlR (rls1 ++ [(⟨.slice (some ⟨b31, 0, none⟩) 1 1, [(.slice a30 64 c30, seenL (lineF xs i))], -1⟩ : RL)]) * pt b13 (cl ([.int .i64 ((n * 64 : Nat) : Int), .slice a34 (i + 1) c34, .int .i64 0, .slice none 0 0, .int .i64 0, .bool false]) 91) * Sl 2 (.slice a34 (i + 1) c34) (i + 1) ((rls1 ++ [(⟨.slice (some ⟨b31, 0, none⟩) 1 1, [(.slice a30 64 c30, seenL (lineF xs i))], -1⟩ : RL)]).flatMap rcl)) (fun _ _ h => ?_) ?_
              · have e : rlR (⟨.slice (some ⟨b31, 0, none⟩) 1 1, [(.slice a30 64 c30, seenL (lineF xs i))], -1⟩ : RL) = Sl 1 (.slice (some ⟨b31, 0, none⟩) 1 1) 1 [.slice a30 64 c30] * SlR 1 (.slice a30 64 c30) 64 (bys ((xs.drop (i * 64)).take 64)) := by
                  show Sl 1 _ 1 [_] * Bs rowR [_] = _
                  rw [bs_cons, bs_nil, emp_star]
                  show _ * SlR 1 _ 64 (bys (lb (seenL (lineF xs i)))) = _
                  rw [hlf]
                rw [bs_snoc, e]
                have h1 := sl_share (h.perm (show _ = F * Bs rlR rls1 * pt b13 (cl ([.int .i64 ((n * 64 : Nat) : Int), .slice a34 (i + 1) c34, .int .i64 0, .slice none 0 0, .int .i64 0, .bool false]) 91) * Sl 2 (.slice a34 (i + 1) c34) (i + 1) ((rls1 ++ [(⟨.slice (some ⟨b31, 0, none⟩) 1 1, [(.slice a30 64 c30, seenL (lineF xs i))], -1⟩ : RL)]).flatMap rcl) * pt b31 (cl [.slice a30 64 c30] 28) * Sl 1 (.slice a30 64 c30) 64 (bys ((xs.drop (i * 64)).take 64)) by ac_rfl))
                have h2 := sl_new (k := 1) (n := 1) (cap := 1) (xs := [.slice a30 64 c30]) (h1.perm (star_swap _ _ _)) (by decide) (Nat.le_refl _) rfl
                exact h2.perm (by ac_rfl)
              refine tc_reg ?_
              refine tl_v rfl (o_move (by conv => lhs; whnf)) ?_
              refine tl_v rfl (by first | exact o_addI rfl rfl (by omega) | exact o_add rfl rfl) ?_
              refine tl_env (d := 19) (v := .int .i64 (((i + 1) * 64 : Nat) : Int)) (by show Value.int .i64 _ = _; congr 1; omega) ?_
              refine tl_v rfl (o_assign (by conv => lhs; whnf)) ?_
              refine tl_nil ?_
              refine q_then_n ?_
              exact ⟨_, by omega, i + 1, a34, c34, rls1 ++ [(⟨.slice (some ⟨b31, 0, none⟩) 1 1, [(.slice a30 64 c30, seenL (lineF xs i))], -1⟩ : RL)], by omega, hnext, rfl, rfl, rfl, rfl, rfl⟩
            · skip
              refine oh_x (i := 13) (listed' := #[true, true, true, true, false, true, true, true, true, true, true, true, true, true, false, false, false, false]) rfl rfl rfl (o_buildSliceK (k := 2) (l := [.slice (some ⟨b31, 0, none⟩) 1 1, .int .i64 (-1)]) Try.underlying89 sz176 z176 rfl rfl (by decide)) ?_
              rintro _ _ ⟨b33, rfl, rfl⟩
              refine ⟨by repeat (first | with_reducible exact dr_refl | apply dr_keep | apply dr_drop), ?_⟩
              refine th_one (i := 4) (by kernel_rfl) ?_
              refine oh_v (i := 4) (listed' := #[true, true, true, true, true, true, true, true, true, true, true, true, true, true, false, false, false, false]) rfl rfl rfl (o_load p89 rfl (by repeat (first | with_reducible exact has_here | with_reducible exact has_pt | apply has_left)) rfl) ?_
              refine th_one (i := 14) (by kernel_rfl) ?_
              refine oh_x (i := 14) (listed' := #[true, true, true, true, true, true, true, true, true, true, true, true, true, true, true, false, false, false]) rfl rfl rfl (o_apB Try.underlying89 Try.underlying89 sz176 by176 z176 rfl (by decide) (by decide) rfl rfl rfl (by repeat (first | with_reducible exact ct_here | apply ct_left)) rfl rfl (by omega) (fm_sn rls1 ((⟨.slice (some ⟨b31, 0, none⟩) 1 1, [(.slice a30 64 c30, seenL (lineF xs i))], -1⟩ : RL)))) ?_
              rintro _ _ ⟨a34, c34, rfl, hc34, rfl⟩
              refine ⟨by repeat (first | with_reducible exact dr_refl | apply dr_keep | apply dr_drop), ?_⟩
              refine th_take (i := 15) (listed' := #[true, true, true, true, true, true, true, true, true, true, true, true, true, true, true, true, false, false]) rfl (by kernel_rfl) (by kernel_rfl) (by kernel_rfl) rfl rfl (o_nilCheck rfl) ?_
              refine th_take (i := 16) (listed' := #[true, true, true, true, true, true, true, true, true, true, true, true, true, true, true, true, true, false]) rfl (by kernel_rfl) (by kernel_rfl) (by kernel_rfl) rfl rfl (o_fieldAddr (o := 1) Try.underlying91 rfl rfl sz89 rfl) ?_
              refine th_one (i := 17) (by kernel_rfl) ?_
              refine oh_u (i := 17) (listed' := #[true, true, true, true, true, true, true, true, true, true, true, true, true, true, true, true, true, true]) rfl rfl rfl (o_stU (l' := [.int .i64 ((n * 64 : Nat) : Int), .slice a34 (i + 1) c34, .int .i64 0, .slice none 0 0, .int .i64 0, .bool false]) rfl (by repeat (first | with_reducible exact upd_here | with_reducible exact upd_pt | apply upd_left)) sz89 rfl rfl (by show 1 < 6; decide) rfl) (by repeat (first | with_reducible exact dr_refl | apply dr_keep | apply dr_drop)) ?_
              refine th_done (by kernel_rfl) ?_
              refine q_block_n (q_then_n ?_)
              have hnext : (rls1 ++ [(⟨.slice (some ⟨b31, 0, none⟩) 1 1, [(.slice a30 64 c30, seenL (lineF xs i))], -1⟩ : RL)]).map RL.l = (fromS n xs).ls.take (i + 1) := by
                rw [List.map_append, hp1, List.take_succ_eq_append_getElem (by rw [fromS_len]; exact hi), fromS_at xs hi]; rfl
              refine tc_pre (A' := F * Bs rlR (rls1 ++ [(⟨.slice (some ⟨b31, 0, none⟩) 1 1, [(.slice a30 64 c30, seenL (lineF xs i))], -1⟩ : RL)]) * pt b13 (cl ([.int .i64 ((n * 64 : Nat) : Int), .slice a34 (i + 1) c34, .int .i64 0, .slice none 0 0, .int .i64 0, .bool false]) 91) * Sl 2 (.slice a34 (i + 1) c34) (i + 1) ((rls1 ++ [(⟨.slice (some ⟨b31, 0, none⟩) 1 1, [(.slice a30 64 c30, seenL (lineF xs i))], -1⟩ : RL)]).flatMap rcl)) (fun _ _ h => ?_) ?_
              · have e : rlR (⟨.slice (some ⟨b31, 0, none⟩) 1 1, [(.slice a30 64 c30, seenL (lineF xs i))], -1⟩ : RL) = Sl 1 (.slice (some ⟨b31, 0, none⟩) 1 1) 1 [.slice a30 64 c30] * SlR 1 (.slice a30 64 c30) 64 (bys ((xs.drop (i * 64)).take 64)) := by
                  show Sl 1 _ 1 [_] * Bs rowR [_] = _
                  rw [bs_cons, bs_nil, emp_star]
                  show _ * SlR 1 _ 64 (bys (lb (seenL (lineF xs i)))) = _
                  rw [hlf]
                rw [bs_snoc, e]
                have h1 := sl_share (h.perm (show _ = F * Bs rlR rls1 * pt b13 (cl ([.int .i64 ((n * 64 : Nat) : Int), .slice a34 (i + 1) c34, .int .i64 0, .slice none 0 0, .int .i64 0, .bool false]) 91) * Sl 2 (.slice a34 (i + 1) c34) (i + 1) ((rls1 ++ [(⟨.slice (some ⟨b31, 0, none⟩) 1 1, [(.slice a30 64 c30, seenL (lineF xs i))], -1⟩ : RL)]).flatMap rcl) * pt b31 (cl [.slice a30 64 c30] 28) * Sl 1 (.slice a30 64 c30) 64 (bys ((xs.drop (i * 64)).take 64)) by ac_rfl))
                have h2 := sl_new (k := 1) (n := 1) (cap := 1) (xs := [.slice a30 64 c30]) (h1.perm (star_swap _ _ _)) (by decide) (Nat.le_refl _) rfl
                exact h2.perm (by ac_rfl)
              refine tc_reg ?_
              refine tl_v rfl (o_move (by conv => lhs; whnf)) ?_
              refine tl_v rfl (by first | exact o_addI rfl rfl (by omega) | exact o_add rfl rfl) ?_
              refine tl_env (d := 19) (v := .int .i64 (((i + 1) * 64 : Nat) : Int)) (by show Value.int .i64 _ = _; congr 1; omega) ?_
              refine tl_v rfl (o_assign (by conv => lhs; whnf)) ?_
              refine tl_nil ?_
              refine q_then_n ?_
              exact ⟨_, by omega, i + 1, a34, c34, rls1 ++ [(⟨.slice (some ⟨b31, 0, none⟩) 1 1, [(.slice a30 64 c30, seenL (lineF xs i))], -1⟩ : RL)], by omega, hnext, rfl, rfl, rfl, rfl, rfl⟩
      · obtain rfl : i = n := by simp at h; omega
        rw [List.take_of_length_le (by rw [fromS_len]; exact Nat.le_refl _)] at hp1
        refine tc_exit ?_
        refine q_then_e (q_then_e (q_block_x (q_then_n ?_)))
        refine tc_seq ?_
        refine tc_reg ?_
        refine tl_v rfl (o_move (by conv => lhs; whnf)) ?_
        refine tl_v rfl (o_assign (by conv => lhs; whnf)) ?_
        refine tl_v rfl (o_assign (by conv => lhs; whnf)) ?_
        refine tl_nil ?_
        refine q_then_n ?_
        refine tc_ret ?_
        refine ⟨.tuple #[.pointer (some ⟨b13, 0, none⟩), .int .i64 0], F * RDev b13 (fromS i xs), res2 rfl rfl rfl, fun _ _ h => ?_, b13, rfl, rfl⟩
        refine rdev_back (lv := .slice aL i cL) (rls := rls1) (av := .slice none 0 0) (kvs := []) (fromS_wf hn hn2 hb) hp1 rfl _ _ ?_
        have h1 := sl_nil (k := 2) h
        refine h1.perm ?_
        unfold RDevC ArmsR rdcs
        rw [fromS_len]
        show _ = F * (_ * _ * _ * (Sl 2 (.slice none 0 0) 0 [] * emp))
        rw [star_emp]
        rw [show (fromS i xs).ops = 0 from rfl, show (fromS i xs).cnt = 0 from rfl, show (fromS i xs).off = false from rfl]
        ac_rfl
theorem rOps_c {A R : SP} {C : SP → SP} {r : Nat} {s : DevS} (hc : Ct A (RDev r s) R C := by repeat (first | with_reducible exact ct_here | apply ct_left))  :
    Fn Try.prog 69 #[.pointer (some ⟨r, 0, none⟩)] A (fun v B => v = .int .i64 s.ops ∧ A = B) := by
  obtain ⟨rfl, hC⟩ := hc
  exact fn_rdevR0 fun A lv rls av hR => rOps_f A hR
theorem rCrash_c {A R : SP} {C : SP → SP} {r : Nat} {s : DevS} (hc : Ct A (RDev r s) R C := by repeat (first | with_reducible exact ct_here | apply ct_left)) {a : Option Addr} {c m : Nat} {keep : List Int} (hr : Rs R a (ints keep) := by repeat (first | assumption | with_reducible exact rs_sl | with_reducible exact rs_pt0 | exact rs_none | apply Rs.left)) (hk : ∀ k ∈ keep, k ≤ 9223372036854775807 := by assumption) (hm : keep.length = m := by first | assumption | rfl) (hkl : m ≤ 17592186044416 := by omega) :
    Fn Try.prog 71 #[.pointer (some ⟨r, 0, none⟩), .slice a m c] A (fun r_ B => ∃ e s2, crS keep s = (e, s2) ∧ r_ = .int .i64 e ∧ B = C (RDev r s2)) := by
  obtain ⟨rfl, hC⟩ := hc
  exact (rCrash_f R hr hk hm hkl).mono fun _ _ h => ⟨(crS keep s).1, (crS keep s).2, rfl, h.1, by rw [hC]; exact h.2⟩
theorem rImage_c {A R : SP} {C : SP → SP} {r : Nat} {s : DevS} (hc : Ct A (RDev r s) R C := by repeat (first | with_reducible exact ct_here | apply ct_left))  :
    Fn Try.prog 70 #[.pointer (some ⟨r, 0, none⟩)] A (fun v B => ∃ a c, v = .slice a (s.ls.length * 64) c ∧ s.ls.length * 64 ≤ c ∧ B = A * Sl 1 (.slice a (s.ls.length * 64) c) (s.ls.length * 64) (bys (imgS s))) := by
  obtain ⟨rfl, hC⟩ := hc
  exact (fn_rdevR (q := fun v X => ∃ a c, v = .slice a (s.ls.length * 64) c ∧ s.ls.length * 64 ≤ c ∧ X = Sl 1 (.slice a (s.ls.length * 64) c) (s.ls.length * 64) (bys (imgS s))) fun A lv rls av hR => rImage_f A hR).mono fun v B ⟨X, e, a, c, h1, h2, h3⟩ => ⟨a, c, h1, h2, by rw [e, h3]⟩
theorem rLoad_c {A R : SP} {C : SP → SP} {r : Nat} {s : DevS} (hc : Ct A (RDev r s) R C := by repeat (first | with_reducible exact ct_here | apply ct_left)) {p m : Nat} (hoff : s.off = false := by assumption) (hpm : p + m ≤ s.ls.length * 64 := by omega) :
    Fn Try.prog 106 #[.pointer (some ⟨r, 0, none⟩), .int .i64 (p : Nat), .int .i64 (m : Nat)] A (fun v B => ∃ a c, v = .tuple #[.slice a m c, .int .i64 0] ∧ m ≤ c ∧ B = A * Sl 1 (.slice a m c) m (bys (((imgS s).drop p).take m))) := by
  obtain ⟨rfl, hC⟩ := hc
  exact (fn_rdevR (q := fun v X => ∃ a c, v = .tuple #[.slice a m c, .int .i64 0] ∧ m ≤ c ∧ X = Sl 1 (.slice a m c) m (bys (((imgS s).drop p).take m))) fun A lv rls av hR => rLoad_f A hR hoff hpm).mono fun v B ⟨X, e, a, c, h1, h2, h3⟩ => ⟨a, c, h1, h2, by rw [e, h3]⟩
end Go.Vl

set_option linter.unusedVariables false
set_option linter.unusedSimpArgs false
namespace Go.Vl
open Go Go.Proofs
theorem Foc.words {A A' : SP} {hvs : List Value} {held : List (List Nat)} (h : Foc A (Words hvs held) (Words hvs held) A') (hl : hvs.length = held.length) {g : Gh} {w : World} (hs : sat g w A) :
    ∀ i (hi : i < held.length), ∃ a c, hvs[i]? = some (.slice a held[i].length c) ∧ Rd A a (wds held[i]) := fun i hi => by
  obtain ⟨R, hA, _⟩ := h
  obtain ⟨S, h1, _⟩ := words_get hl hi
  rw [h1, ← star_assoc] at hA
  obtain ⟨a, c, e, _, _, hr⟩ := sl_have' hA hs
  exact ⟨a, c, by rw [List.getElem?_eq_getElem (by omega), e], hr⟩
/-- What PmemLasts looks at, of a book and a device behind a loss of power. -/
structure Lasts (P : PlS) (s2 : DevS) : Prop where
  len : s2.ls.length = P.marks.length
  wf : WfD s2
  wfp : WfD P.s
  seen : ∀ i (h : i < P.seen.length), nm (((imgS P.s).drop (8 * i)).take 8) = P.seen[i]
  held : ∀ i (h : i < P.held.length), nm (((imgS s2).drop (8 * i)).take 8) ∈ P.held[i]
  last : ∀ i (h : i < P.sure.length) (h' : i < P.last.length), P.sure[i] = true → nm (((imgS s2).drop (8 * i)).take 8) = P.last[i]
end Go.Vl

set_option linter.unusedVariables false
set_option linter.unusedSimpArgs false
namespace Go.Vl
open Go Go.Proofs
/-- The book tells the device. -/
structure InvL (P : PlS) (w : Nat) (l : LineS) : Prop where
  seen : (seenL l).getD (w % 8) 0 = P.seen.getD w 0
  held : ∀ σ ∈ l.st, σ.getD (w % 8) 0 ∈ P.held.getD w []
  last : P.sure.getD w false = true → ∀ σ ∈ l.st, σ.getD (w % 8) 0 = P.last.getD w 0
  mark : P.marks.getD (w / 8) 0 = 1 → l.mark = (l.st.length : Int) - 1
def Inv (P : PlS) : Prop := ∀ w l, w < P.seen.length → P.s.ls[w / 8]? = some l → InvL P w l
end Go.Vl

set_option linter.unusedVariables false
set_option linter.unusedSimpArgs false
namespace Go.Vl
open Go Go.Proofs
instance : Inhabited StepC := ⟨⟨0, 0, .bool false, 0, .bool false, .bool false, .bool false⟩⟩
end Go.Vl

set_option linter.unusedVariables false
set_option linter.unusedSimpArgs false
namespace Go.Vl
open Go Go.Proofs
attribute [local irreducible] Sl pt ro
theorem rin9_f (A : SP) {r : Nat} {lv av : Value} {rls : List RL} {s : DevS} (hR : RdevR A r lv rls av s) {p m : Int} (hp : -9223372036854775808 ≤ p ∧ p ≤ 9223372036854775807) (hm : 0 ≤ m ∧ m ≤ 9223372036854775807) :
    Fn Try.prog 148 #[.pointer (some ⟨r, 0, none⟩), .int .i64 p, .int .i64 m] (A) (fun v B => v = .bool (decide (rdy s.ls.length false p m = 0)) ∧ A = B) := by
  refine fn_enterW (args := [.pointer (some ⟨r, 0, none⟩), .int .i64 p, .int .i64 m]) Try.func148 rfl Try.ntmps148 (by simp) ?_
  have htop := hR.wf.top
  refine tc_seq ?_
  refine tc_reg ?_
  refine tl_v rfl (o_assign (by conv => lhs; whnf)) ?_
  refine tl_nil ?_
  refine q_then_n ?_
  refine tc_seq ?_
  refine tc_reg ?_
  refine tl_v rfl (o_move (by conv => lhs; whnf)) ?_
  refine tl_v rfl (o_geq rfl rfl) ?_
  refine tl_v rfl (o_move (by conv => lhs; whnf)) ?_
  refine tl_bool (d := 9) rfl (fun h => ?_) (fun h => ?_)
  · try simp only [decide_eq_true_eq, decide_eq_false_iff_not, Bool.not_eq_true', Bool.not_eq_false', Option.isNone_some, Option.isNone_none, Bool.not_true, Bool.not_false] at h
    refine tl_v rfl (o_move (by conv => lhs; whnf)) ?_
    refine tl_v rfl (o_move (by conv => lhs; whnf)) ?_
    refine tl_v rfl (o_nilCheck rfl) ?_
    refine tl_v rfl (o_fieldAddr (o := 0) Try.underlying91 rfl rfl sz3 rfl) ?_
    refine tl_v rfl (o_ldP (a := some ⟨r, 0, none⟩) (i := 0) p3 rfl (by repeat (first | exact hR.d | apply Rs.left)) rfl) ?_
    refine tl_v rfl (o_leq rfl rfl) ?_
    refine tl_v rfl (o_pick_t rfl (by conv => lhs; whnf)) ?_
    refine tl_v rfl (o_move (by conv => lhs; whnf)) ?_
    refine tl_bool (d := 17) rfl (fun h => ?_) (fun h => ?_)
    · try simp only [decide_eq_true_eq, decide_eq_false_iff_not, Bool.not_eq_true', Bool.not_eq_false', Option.isNone_some, Option.isNone_none, Bool.not_true, Bool.not_false] at h
      refine tl_v rfl (o_move (by conv => lhs; whnf)) ?_
      refine tl_v rfl (o_move (by conv => lhs; whnf)) ?_
      refine tl_v rfl (o_nilCheck rfl) ?_
      refine tl_v rfl (o_fieldAddr (o := 0) Try.underlying91 rfl rfl sz3 rfl) ?_
      refine tl_v rfl (o_ldP (a := some ⟨r, 0, none⟩) (i := 0) p3 rfl (by repeat (first | exact hR.d | apply Rs.left)) rfl) ?_
      refine tl_v rfl (o_move (by conv => lhs; whnf)) ?_
      refine tl_v rfl (by first | exact o_subI rfl rfl (by omega) | exact o_sub rfl rfl) ?_
      refine tl_v rfl (o_leq rfl rfl) ?_
      refine tl_v rfl (o_pick_t rfl (by conv => lhs; whnf)) ?_
      refine tl_v rfl (o_assign (by conv => lhs; whnf)) ?_
      refine tl_nil ?_
      refine q_then_n ?_
      refine tc_ret ?_
      refine ⟨.bool (decide (m ≤ ((s.ls.length * 64 : Nat) : Int) - p)), _, res1 rfl rfl, ?_, (by congr 1; rw [decide_eq_decide]; unfold rdy; rw [if_neg (by decide)]; split <;> constructor <;> intro _ <;> omega), rfl⟩
      exact Dr.sat (by repeat (first | with_reducible exact dr_refl | apply dr_keep | apply dr_drop))
    · try simp only [decide_eq_true_eq, decide_eq_false_iff_not, Bool.not_eq_true', Bool.not_eq_false', Option.isNone_some, Option.isNone_none, Bool.not_true, Bool.not_false] at h
      refine tl_skip rfl ?_
      refine tl_skip rfl ?_
      refine tl_skip rfl ?_
      refine tl_skip rfl ?_
      refine tl_skip rfl ?_
      refine tl_skip rfl ?_
      refine tl_skip rfl ?_
      refine tl_skip rfl ?_
      refine tl_v rfl (o_pick_f rfl (by conv => lhs; whnf)) ?_
      refine tl_v rfl (o_assign (by conv => lhs; whnf)) ?_
      refine tl_nil ?_
      refine q_then_n ?_
      refine tc_ret ?_
      refine ⟨.bool false, _, res1 rfl rfl, ?_, (by rw [decide_eq_false]; unfold rdy; rw [if_neg (by decide), if_pos (by omega)]; decide), rfl⟩
      exact Dr.sat (by repeat (first | with_reducible exact dr_refl | apply dr_keep | apply dr_drop))
  · try simp only [decide_eq_true_eq, decide_eq_false_iff_not, Bool.not_eq_true', Bool.not_eq_false', Option.isNone_some, Option.isNone_none, Bool.not_true, Bool.not_false] at h
    refine tl_skip rfl ?_
    refine tl_skip rfl ?_
    refine tl_skip rfl ?_
    refine tl_skip rfl ?_
    refine tl_skip rfl ?_
    refine tl_skip rfl ?_
    refine tl_v rfl (o_pick_f rfl (by conv => lhs; whnf)) ?_
    refine tl_v rfl (o_move (by conv => lhs; whnf)) ?_
    refine tl_skip rfl ?_
    refine tl_skip rfl ?_
    refine tl_skip rfl ?_
    refine tl_skip rfl ?_
    refine tl_skip rfl ?_
    refine tl_skip rfl ?_
    refine tl_skip rfl ?_
    refine tl_skip rfl ?_
    refine tl_v rfl (o_pick_f rfl (by conv => lhs; whnf)) ?_
    refine tl_v rfl (o_assign (by conv => lhs; whnf)) ?_
    refine tl_nil ?_
    refine q_then_n ?_
    refine tc_ret ?_
    refine ⟨.bool false, _, res1 rfl rfl, ?_, (by rw [decide_eq_false]; unfold rdy; rw [if_neg (by decide), if_pos (by omega)]; decide), rfl⟩
    exact Dr.sat (by repeat (first | with_reducible exact dr_refl | apply dr_keep | apply dr_drop))
theorem rin9_c {A R : SP} {C : SP → SP} {r : Nat} {s : DevS} (hc : Ct A (RDev r s) R C := by repeat (first | with_reducible exact ct_here | apply ct_left)) {p m : Int} (hp : -9223372036854775808 ≤ p ∧ p ≤ 9223372036854775807 := by omega) (hm : 0 ≤ m ∧ m ≤ 9223372036854775807 := by omega) :
    Fn Try.prog 148 #[.pointer (some ⟨r, 0, none⟩), .int .i64 p, .int .i64 m] A (fun v B => v = .bool (decide (rdy s.ls.length false p m = 0)) ∧ A = B) := by
  obtain ⟨rfl, hC⟩ := hc
  exact fn_rdevR0 fun A lv rls av hR => rin9_f A hR hp hm
theorem wfR_ct {A R : SP} {C : SP → SP} {r : Nat} {s : DevS} (hc : Ct A (RDev r s) R C) {g : Gh} {w : World} (hs : sat g w A) : WfD s := by
  obtain ⟨rfl, _⟩ := hc; exact (rdev_iff.1 hs).1
theorem nm_snocr (x : Nat) (l : List Nat) : nm (x :: l) = x + 256 * nm l := rfl
theorem nm_bound {l : List Nat} (h : ∀ x ∈ l, x < 256) (hl : l.length ≤ 8) : nm l < 18446744073709551616 := Nat.lt_of_lt_of_le (nm_lt l h) (by calc 256 ^ l.length ≤ 256 ^ 8 := Nat.pow_le_pow_right (by decide) hl
  _ = 18446744073709551616 := by decide)
theorem NumberR_c {A : SP} {a : Option Addr} {c m : Nat} {xs : List Nat} (hr : Rs A a (bys xs) := by repeat (first | assumption | with_reducible exact rs_sl | with_reducible exact rs_pt0 | exact rs_none | apply Rs.left)) (hm : xs.length = m := by first | assumption | rfl) (hb : ∀ x ∈ xs, x < 256 := by assumption) (h8 : m ≤ 8 := by omega) :
    Fn Try.prog 154 #[.slice a m c] (A) (fun v B => v = .int .u64 ((nm xs : Nat) : Int) ∧ A = B) := by
  refine fn_enterW (args := [.slice a m c]) Try.func154 rfl Try.ntmps154 (by simp) ?_
  refine tc_seq ?_
  refine tc_reg ?_
  refine tl_v rfl (o_assign (by conv => lhs; whnf)) ?_
  refine tl_nil ?_
  refine q_then_n ?_
  refine tc_seq ?_
  refine tc_reg ?_
  refine tl_v rfl (o_assign (by conv => lhs; whnf)) ?_
  refine tl_nil ?_
  refine q_then_n ?_
  refine tc_seq ?_
  refine tc_seq ?_
  refine tc_reg ?_
  refine tl_v rfl (o_move (by conv => lhs; whnf)) ?_
  refine tl_v rfl (o_len Try.underlying28 rfl) ?_
  refine tl_v rfl (by first | exact o_subI rfl rfl (by omega) | exact o_sub rfl rfl) ?_
  refine tl_v rfl (o_assign (by conv => lhs; whnf)) ?_
  refine tl_nil ?_
  refine q_then_n ?_
  refine tc_block ?_
  refine tc_loop (fun kk ρ BB => ∃ (i : Nat), (i ≤ m) ∧ kk = i ∧ ρ 3 = .int .u64 ((nm (xs.drop i) : Nat) : Int) ∧ ρ 4 = .int .i64 ((i : Int) - 1) ∧ ρ 0 = .slice a m c ∧ BB = A) (m := (m)) ?_ ?_
  · exact ⟨m, by omega, rfl, by rw [List.drop_of_length_le (by omega)]; rfl, rfl, rfl, rfl⟩
  · intro k ρ B hI
    obtain ⟨i, hp0, hkk1, hE3, hE4, hE0, hBA⟩ := hI
    obtain rfl := hBA.symm
    refine tc_env (d := 3) hE3 ?_
    refine tc_env (d := 4) hE4 ?_
    refine tc_env (d := 0) hE0 ?_
    clear hE3 hE4 hE0
    refine tc_seq ?_
    refine tc_seq ?_
    refine tc_reg ?_
    refine tl_v rfl (o_move (by conv => lhs; whnf)) ?_
    refine tl_v rfl (o_geq rfl rfl) ?_
    refine tl_nil ?_
    refine q_then_n ?_
    refine tc_cond rfl (fun h => ?_) (fun h => ?_)
    · have hi : 1 ≤ i := by simp at h; omega
      have hi2 : i - 1 < xs.length := by omega
      have e1 : xs.drop (i - 1) = xs[i - 1] :: xs.drop i := by rw [List.drop_eq_getElem_cons hi2, show i - 1 + 1 = i by omega]
      have hbb := nm_bound (fun x hx => hb x (List.mem_of_mem_drop hx)) (show (xs.drop (i - 1)).length ≤ 8 by rw [List.length_drop]; omega)
      rw [e1, nm_snocr] at hbb
      have hx := hb _ (List.getElem_mem hi2)
      refine tc_skip ?_
      refine q_then_n ?_
      refine tc_seq ?_
      refine tc_block ?_
      refine tc_reg ?_
      refine tl_v rfl (o_move (by conv => lhs; whnf)) ?_
      refine tl_v rfl (o_mulN (b := 256) rfl rfl rfl rfl (by show _ < 18446744073709551616; omega)) ?_
      refine tl_v rfl (o_move (by conv => lhs; whnf)) ?_
      refine tl_v rfl (o_move (by conv => lhs; whnf)) ?_
      refine tl_env (d := 15) (v := .int .i64 ((i - 1 : Nat) : Int)) (by show Value.int .i64 _ = Value.int .i64 _; congr 1; omega) ?_
      refine tl_v rfl (o_ixP1 Try.underlying28 sz5 rfl rfl (by first | omega | (simp only [bys_length, ints_length, wds_length, bos_length, List.length_append, List.length_take, List.length_drop, List.length_singleton]; omega)) (by repeat (first | exact nn_some | with_reducible exact nn_sl (by decide) | exact nn_rs (by assumption) (fun _ => by first | omega | (simp only [bys_length, ints_length, wds_length, bos_length, List.length_append, List.length_take, List.length_drop, List.length_singleton]; omega)) | apply Nn.left))) ?_
      refine tl_v rfl (o_ldP p5 rfl (by repeat (first | assumption | with_reducible exact rs_sl | with_reducible exact rs_pt0 | exact rs_none | apply Rs.left)) (by first | assumption | exact bys_at (by omega) | exact ints_at (by omega) | exact wds_at (by omega) | exact bos_at (by omega) | rfl)) ?_
      refine tl_v rfl (by first | exact o_conv64 Try.underlying5 Try.underlying53 rfl | exact o_conv Try.underlying5 Try.underlying53 rfl) ?_
      refine tl_env (d := 18) (v := .int .u64 ((xs[i - 1] : Nat) : Int)) (congrArg (fun z : Nat => Value.int .u64 (z : Int)) (Nat.mod_eq_of_lt (by omega))) ?_
      refine tl_v rfl (o_addN rfl rfl rfl (by show _ < 18446744073709551616; omega)) ?_
      refine tl_v rfl (o_assign (by conv => lhs; whnf)) ?_
      refine tl_nil ?_
      refine q_block_n (q_then_n ?_)
      refine tc_reg ?_
      refine tl_v rfl (o_move (by conv => lhs; whnf)) ?_
      refine tl_v rfl (by first | exact o_subI rfl rfl (by omega) | exact o_sub rfl rfl) ?_
      refine tl_v rfl (o_assign (by conv => lhs; whnf)) ?_
      refine tl_nil ?_
      refine q_then_n ?_
      exact ⟨_, by omega, i - 1, by omega, rfl, by show Value.int .u64 _ = Value.int .u64 _; rw [e1, nm_snocr]; congr 1; omega, by show Value.int .i64 _ = _; congr 1; omega, rfl, rfl⟩
    · try simp only [decide_eq_true_eq, decide_eq_false_iff_not, Bool.not_eq_true', Bool.not_eq_false', Option.isNone_some, Option.isNone_none, Bool.not_true, Bool.not_false] at h
      refine tc_exit ?_
      refine q_then_e (q_then_e (q_block_x (q_then_n ?_)))
      refine tc_seq ?_
      refine tc_reg ?_
      refine tl_v rfl (o_move (by conv => lhs; whnf)) ?_
      refine tl_v rfl (o_assign (by conv => lhs; whnf)) ?_
      refine tl_nil ?_
      refine q_then_n ?_
      refine tc_ret ?_
      obtain rfl : i = 0 := by simp at h; omega
      exact ⟨.int .u64 ((nm (xs.drop 0) : Nat) : Int), A, res1 rfl rfl, Dr.sat (by repeat (first | with_reducible exact dr_refl | apply dr_keep | apply dr_drop)), by rw [List.drop_zero], rfl⟩
theorem rNumber_c {A R : SP} {C : SP → SP} {r : Nat} {s : DevS} (hc : Ct A (RDev r s) R C := by repeat (first | with_reducible exact ct_here | apply ct_left)) {p : Int} {n : Nat} (hp : -9223372036854775808 ≤ p ∧ p ≤ 9223372036854775807 := by omega) (hn : n ≤ 8 := by omega) :
    Fn Try.prog 147 #[.pointer (some ⟨r, 0, none⟩), .int .i64 p, .int .i64 (n : Nat)] (A) (fun v B => v = .tuple #[.int .u64 (((loadP p n s).1 : Nat) : Int), .int .i64 (loadP p n s).2] ∧ B = C (RDev r s)) := by
  refine fn_enterW (args := [.pointer (some ⟨r, 0, none⟩), .int .i64 p, .int .i64 (n : Nat)]) Try.func147 rfl Try.ntmps147 (by simp) ?_
  obtain ⟨rfl, hC⟩ := hc
  refine tc_rdev fun hw lv rls av kvs hmap hkv => ?_
  have hpos := hw.pos
  have htop := hw.top
  
  refine tc_seq ?_
  refine tc_reg ?_
  refine tl_v rfl (o_assign (by conv => lhs; whnf)) ?_
  refine tl_v rfl (o_assign (by conv => lhs; whnf)) ?_
  refine tl_nil ?_
  refine q_then_n ?_
  refine tc_seq ?_
  refine tc_seq ?_
  refine tc_reg ?_
  refine tl_v rfl (o_move (by conv => lhs; whnf)) ?_
  refine tl_v rfl (o_eqp Try.underlying86 rfl rfl) ?_
  refine tl_nil ?_
  refine q_then_n ?_
  refine tc_cond rfl (fun h => ?_) (fun h => ?_)
  · (exfalso; first | (revert h; simp; done) | (simp at h; done) | (revert h; simp; omega) | (simp at h; omega) | omega)
  · try simp only [decide_eq_true_eq, decide_eq_false_iff_not, Bool.not_eq_true', Bool.not_eq_false', Option.isNone_some, Option.isNone_none, Bool.not_true, Bool.not_false] at h
    refine tc_skip ?_
    refine q_then_n ?_
    refine tc_seq ?_
    refine tc_seq ?_
    refine tc_reg ?_
    refine tl_v rfl (o_move (by conv => lhs; whnf)) ?_
    refine tl_v rfl (o_nilCheck rfl) ?_
    refine tl_v rfl (o_fieldAddr (o := 5) Try.underlying91 rfl rfl sz4 rfl) ?_
    refine tl_v rfl (o_load p4 rfl (by repeat (first | exact rdevC_r | apply has_left)) rfl) ?_
    refine tl_nil ?_
    refine q_then_n ?_
    refine tc_cond rfl (fun h => ?_) (fun h => ?_)
    · try simp only [decide_eq_true_eq, decide_eq_false_iff_not, Bool.not_eq_true', Bool.not_eq_false', Option.isNone_some, Option.isNone_none, Bool.not_true, Bool.not_false] at h
      refine tc_seq ?_
      refine tc_reg ?_
      refine tl_v rfl (o_assign (by conv => lhs; whnf)) ?_
      refine tl_v rfl (o_assign (by conv => lhs; whnf)) ?_
      refine tl_nil ?_
      refine q_then_n ?_
      refine tc_ret ?_
      refine q_then_r ?_
      have e : loadP p n s = (0, 5) := by unfold loadP rdy; simp only [h, if_true]; rfl
      rw [e]
      exact ⟨.tuple #[.int .u64 0, .int .i64 5], C (RDev r s), res2 rfl rfl rfl, fun _ _ h => by rw [hC]; exact rdev_back hw hmap hkv _ _ h, rfl, rfl⟩
    · have ho : s.off = false := by simpa using h
      refine tc_pre (rdev_back hw hmap hkv) ?_
      refine tc_skip ?_
      refine q_then_n ?_
      refine tc_seq ?_
      refine tc_seq ?_
      refine tc_reg ?_
      refine tl_v rfl (o_move (by conv => lhs; whnf)) ?_
      refine tl_v rfl (o_move (by conv => lhs; whnf)) ?_
      refine tl_v rfl (o_move (by conv => lhs; whnf)) ?_
      refine tl_c rfl (o_call bd148 rfl (rin9_c (s := s))) ?_
      rintro _ _ ⟨rfl, rfl⟩
      refine tl_v rfl (o_not rfl) ?_
      refine tl_nil ?_
      refine q_then_n ?_
      refine tc_cond rfl (fun h => ?_) (fun h => ?_)
      · try simp only [decide_eq_true_eq, decide_eq_false_iff_not, Bool.not_eq_true', Bool.not_eq_false', Option.isNone_some, Option.isNone_none, Bool.not_true, Bool.not_false] at h
        refine tc_seq ?_
        refine tc_reg ?_
        refine tl_v rfl (o_assign (by conv => lhs; whnf)) ?_
        refine tl_v rfl (o_assign (by conv => lhs; whnf)) ?_
        refine tl_nil ?_
        refine q_then_n ?_
        refine tc_ret ?_
        refine q_then_r ?_
        have hz : rdy s.ls.length false p n ≠ 0 := by simpa using h
        have e : loadP p n s = (0, 6) := by unfold loadP; rw [ho, if_pos hz]; unfold rdy at hz ⊢; simp at hz ⊢; exact hz
        rw [e]
        exact ⟨.tuple #[.int .u64 0, .int .i64 6], C (RDev r s), res2 rfl rfl rfl, fun _ _ h => by rw [hC]; exact h, rfl, rfl⟩
      · have hz : rdy s.ls.length false p n = 0 := by simpa using h
        have hr0 := rdy0 hz
        obtain ⟨q, rfl⟩ := Int.eq_ofNat_of_zero_le hr0.2.1
        have hil2 := imgS_len hw
        have hxl : (((imgS s).drop q).take n).length = n := by rw [List.length_take, List.length_drop]; omega
        have hxb : ∀ x ∈ ((imgS s).drop q).take n, x < 256 := img_sub
        refine tc_skip ?_
        refine q_then_n ?_
        refine tc_seq ?_
        refine tc_reg ?_
        refine tl_v rfl (o_move (by conv => lhs; whnf)) ?_
        refine tl_v rfl (o_move (by conv => lhs; whnf)) ?_
        refine tl_v rfl (o_move (by conv => lhs; whnf)) ?_
        refine tl_c rfl (o_call bd106 rfl (rLoad_c (s := s) (p := q) (m := n))) ?_
        rintro _ _ ⟨a25, c25, rfl, hc25, rfl⟩
        refine tl_v rfl (o_move (by conv => lhs; whnf)) ?_
        refine tl_v rfl (o_extract rfl rfl) ?_
        refine tl_v rfl (o_extract rfl rfl) ?_
        refine tl_v rfl (o_assign (by conv => lhs; whnf)) ?_
        refine tl_v rfl (o_assign (by conv => lhs; whnf)) ?_
        refine tl_nil ?_
        refine q_then_n ?_
        refine tc_seq ?_
        refine tc_reg ?_
        refine tl_v rfl (o_move (by conv => lhs; whnf)) ?_
        refine tl_c rfl (o_call bd154 rfl (NumberR_c (xs := ((imgS s).drop q).take n))) ?_
        rintro _ _ ⟨rfl, rfl⟩
        refine tl_v rfl (o_move (by conv => lhs; whnf)) ?_
        refine tl_v rfl (o_assign (by conv => lhs; whnf)) ?_
        refine tl_v rfl (o_assign (by conv => lhs; whnf)) ?_
        refine tl_nil ?_
        refine q_then_n ?_
        refine tc_ret ?_
        have e : loadP (q : Int) n s = (nm (((imgS s).drop q).take n), 0) := by unfold loadP; rw [ho, if_neg (by omega), Int.toNat_natCast]
        rw [e]
        exact ⟨.tuple #[.int .u64 ((nm (((imgS s).drop q).take n) : Nat) : Int), .int .i64 0], C (RDev r s), res2 rfl rfl rfl, fun _ _ h => by rw [hC]; exact Dr.sat (by repeat (first | with_reducible exact dr_refl | apply dr_keep | apply dr_drop)) _ _ h, rfl, rfl⟩
theorem rWord_c {A R : SP} {C : SP → SP} {r : Nat} {s : DevS} (hc : Ct A (RDev r s) R C := by repeat (first | with_reducible exact ct_here | apply ct_left)) {p : Int} (hp : -9223372036854775808 ≤ p ∧ p ≤ 9223372036854775807 := by omega) :
    Fn Try.prog 126 #[.pointer (some ⟨r, 0, none⟩), .int .i64 p] (A) (fun v B => v = .tuple #[.int .u64 (((wordP p s).1 : Nat) : Int), .int .i64 (wordP p s).2] ∧ B = C (RDev r s)) := by
  refine fn_enterW (args := [.pointer (some ⟨r, 0, none⟩), .int .i64 p]) Try.func126 rfl Try.ntmps126 (by simp) ?_
  obtain ⟨rfl, hC⟩ := hc
  refine tc_rdev fun hw lv rls av kvs hmap hkv => ?_
  have hpos := hw.pos
  have htop := hw.top
  
  refine tc_seq ?_
  refine tc_reg ?_
  refine tl_v rfl (o_assign (by conv => lhs; whnf)) ?_
  refine tl_v rfl (o_assign (by conv => lhs; whnf)) ?_
  refine tl_nil ?_
  refine q_then_n ?_
  refine tc_seq ?_
  refine tc_seq ?_
  refine tc_reg ?_
  refine tl_v rfl (o_move (by conv => lhs; whnf)) ?_
  refine tl_v rfl (o_nep Try.underlying86 rfl rfl) ?_
  refine tl_v rfl (o_move (by conv => lhs; whnf)) ?_
  refine tl_bool (d := 8) rfl (fun h => ?_) (fun h => ?_)
  · try simp only [decide_eq_true_eq, decide_eq_false_iff_not, Bool.not_eq_true', Bool.not_eq_false', Option.isNone_some, Option.isNone_none, Bool.not_true, Bool.not_false] at h
    refine tl_v rfl (o_move (by conv => lhs; whnf)) ?_
    refine tl_v rfl (o_nilCheck rfl) ?_
    refine tl_v rfl (o_fieldAddr (o := 5) Try.underlying91 rfl rfl sz4 rfl) ?_
    refine tl_v rfl (o_load p4 rfl (by repeat (first | exact rdevC_r | apply has_left)) rfl) ?_
    refine tl_v rfl (o_not rfl) ?_
    refine tl_v rfl (o_pick_t rfl (by conv => lhs; whnf)) ?_
    refine tl_v rfl (o_move (by conv => lhs; whnf)) ?_
    refine tl_bool (d := 15) rfl (fun h => ?_) (fun h => ?_)
    · have ho : s.off = false := by simpa using h
      refine tl_v rfl (o_move (by conv => lhs; whnf)) ?_
      refine tl_v rfl (o_rem (b := 8) rfl rfl (by decide)) ?_
      refine tl_v rfl (o_nei rfl rfl) ?_
      refine tl_v rfl (o_pick_t rfl (by conv => lhs; whnf)) ?_
      refine tl_nil ?_
      refine q_then_n ?_
      refine tc_cond rfl (fun h => ?_) (fun h => ?_)
      · have hne : p % 8 ≠ 0 := fun e => by simp at h; exact h (tmod8.2 e)
        have e : wordP p s = (0, 6) := by unfold wordP; rw [if_neg (by rw [ho]; decide), if_pos hne]
        refine tc_seq ?_
        refine tc_reg ?_
        refine tl_v rfl (o_assign (by conv => lhs; whnf)) ?_
        refine tl_v rfl (o_assign (by conv => lhs; whnf)) ?_
        refine tl_nil ?_
        refine q_then_n ?_
        refine tc_ret ?_
        refine q_then_r ?_
        first
        | (rw [e]; exact ⟨.tuple #[.int .u64 (((loadP p 8 s).1 : Nat) : Int), .int .i64 (loadP p 8 s).2], C (RDev r s), res2 rfl rfl rfl, fun _ _ h => by first | exact h | (rw [hC]; exact h), rfl, rfl⟩)
        | (rw [e]; exact ⟨.tuple #[.int .u64 0, .int .i64 6], C (RDev r s), res2 rfl rfl rfl, fun _ _ h => by rw [hC]; exact rdev_back hw hmap hkv _ _ h, rfl, rfl⟩)
      · have hmod : p % 8 = 0 := tmod8.1 (by simpa using h)
        have e : wordP p s = loadP p 8 s := by unfold wordP; rw [if_neg (by rw [ho]; decide), if_neg (by omega)]
        refine tc_skip ?_
        refine q_then_n ?_
        refine tc_seq ?_
        refine tc_pre (rdev_back hw hmap hkv) ?_
        refine tc_reg ?_
        refine tl_v rfl (o_move (by conv => lhs; whnf)) ?_
        refine tl_v rfl (o_move (by conv => lhs; whnf)) ?_
        refine tl_c rfl (o_call bd147 rfl (rNumber_c (s := s) (p := p) (n := 8))) ?_
        rintro _ _ ⟨rfl, rfl⟩
        refine tl_v rfl (o_extract rfl rfl) ?_
        refine tl_v rfl (o_extract rfl rfl) ?_
        refine tl_v rfl (o_assign (by conv => lhs; whnf)) ?_
        refine tl_v rfl (o_assign (by conv => lhs; whnf)) ?_
        refine tl_nil ?_
        refine q_then_n ?_
        refine tc_ret ?_
        first
        | (rw [e]; exact ⟨.tuple #[.int .u64 (((loadP p 8 s).1 : Nat) : Int), .int .i64 (loadP p 8 s).2], C (RDev r s), res2 rfl rfl rfl, fun _ _ h => by first | exact h | (rw [hC]; exact h), rfl, rfl⟩)
        | (rw [e]; exact ⟨.tuple #[.int .u64 0, .int .i64 6], C (RDev r s), res2 rfl rfl rfl, fun _ _ h => by rw [hC]; exact rdev_back hw hmap hkv _ _ h, rfl, rfl⟩)
    · have ho : s.off = true := by simpa using h
      have e : wordP p s = loadP p 8 s := by unfold wordP loadP rdy; simp only [ho, if_true]; rfl
      refine tl_skip rfl ?_
      refine tl_skip rfl ?_
      refine tl_skip rfl ?_
      refine tl_v rfl (o_pick_f rfl (by conv => lhs; whnf)) ?_
      refine tl_nil ?_
      refine q_then_n ?_
      refine tc_cond_f rfl ?_
      refine tc_skip ?_
      refine q_then_n ?_
      refine tc_seq ?_
      refine tc_pre (rdev_back hw hmap hkv) ?_
      refine tc_reg ?_
      refine tl_v rfl (o_move (by conv => lhs; whnf)) ?_
      refine tl_v rfl (o_move (by conv => lhs; whnf)) ?_
      refine tl_c rfl (o_call bd147 rfl (rNumber_c (s := s) (p := p) (n := 8))) ?_
      rintro _ _ ⟨rfl, rfl⟩
      refine tl_v rfl (o_extract rfl rfl) ?_
      refine tl_v rfl (o_extract rfl rfl) ?_
      refine tl_v rfl (o_assign (by conv => lhs; whnf)) ?_
      refine tl_v rfl (o_assign (by conv => lhs; whnf)) ?_
      refine tl_nil ?_
      refine q_then_n ?_
      refine tc_ret ?_
      first
      | (rw [e]; exact ⟨.tuple #[.int .u64 (((loadP p 8 s).1 : Nat) : Int), .int .i64 (loadP p 8 s).2], C (RDev r s), res2 rfl rfl rfl, fun _ _ h => by first | exact h | (rw [hC]; exact h), rfl, rfl⟩)
      | (rw [e]; exact ⟨.tuple #[.int .u64 0, .int .i64 6], C (RDev r s), res2 rfl rfl rfl, fun _ _ h => by rw [hC]; exact rdev_back hw hmap hkv _ _ h, rfl, rfl⟩)
  · (exfalso; first | (revert h; simp; done) | (simp at h; done) | (revert h; simp; omega) | (simp at h; omega) | omega)
end Go.Vl
