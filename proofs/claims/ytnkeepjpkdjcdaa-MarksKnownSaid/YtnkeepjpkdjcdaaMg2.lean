/- What the row rests on, part 2: a calculus of assertions, walks of functions over it, and plain laws. Conditions: none. -/
import Derived.Deep.QuietTactic
import Derived.BigQuiet
import Derived.WalkKit
import Derived.Test.YtnkeepjpkdjcdaaProg
import Derived.OrdersHeld
import Derived.Laws.BytesArg
import Derived.Lib.Builder
import Derived.Lib.UnsafeStr
import Derived.RangeFuncRecord
import Derived.TacticsIn
import Derived.Deep.Slices
import Derived.OpenShut
import Derived.ChangeArms
import Derived.SizedLaws
import Derived.ChangeSame
import Derived.Test.YtnkeepjpkdjcdaaRows
import Derived.Lib.ConvBytes
import Derived.Laws.AppendOwn
import Derived.Sort.QuietThIn
import Derived.Test.YtnkeepjpkdjcdaaMg1
set_option linter.unusedVariables false
set_option linter.unusedSimpArgs false
namespace Go.Vl
open Go Go.Proofs
/-- A mark. -/
structure Mk where
  id : Nat
  at_ : Int
  gr : Nat
deriving DecidableEq
def Mk.cells (m : Mk) : List Value := [.int .u32 (m.id : Nat), .int .i64 m.at_, .int .u8 (m.gr : Nat)]
def mcs (l : List Mk) : List Value := l.flatMap Mk.cells
theorem mcs_len (l : List Mk) : (mcs l).length = l.length * 3 := fm_length (f := Mk.cells) fun _ _ => rfl
theorem mcs_at {l : List Mk} {j : Nat} (h : j < l.length) : ((mcs l).drop (j * 3)).take 3 = l[j].cells := fm_at (f := Mk.cells) (fun _ _ => rfl) h
theorem mcs_spl {l : List Mk} {j : Nat} {y : Mk} (h : j < l.length) : splice (mcs l) (j * 3) y.cells = mcs (l.set j y) := fm_spl (f := Mk.cells) (fun _ _ => rfl) h rfl
theorem mcs_oneC (l : List Mk) : (mcs l).all oneC = true := fm_oneC fun _ _ => rfl
theorem mcs_append (l m : List Mk) : mcs (l ++ m) = mcs l ++ mcs m := by simp [mcs]
theorem mcs_take (l : List Mk) (i : Nat) : (mcs l).take (i * 3) = mcs (l.take i) := fm_take (f := Mk.cells) fun _ _ => rfl
theorem mcs_drop (l : List Mk) (i : Nat) : (mcs l).drop (i * 3) = mcs (l.drop i) := fm_drop (f := Mk.cells) fun _ _ => rfl
/-- What holds two marks against each other. -/
structure OrdF (gf : Nat) (cf : Mk → Mk → Int) : Prop where
  body : bodyB Try.prog gf = true
  run : ∀ (A : SP) (x y : Mk), Fn Try.prog gf #[.agg x.cells.toArray, .agg y.cells.toArray] A (fun v B => v = .int .i64 (cf x y) ∧ A = B)
def ltc (cf : Mk → Mk → Int) (x y : Mk) : Bool := decide (cf x y < 0)
theorem wrap_i64 {a : Nat} (h : a ≤ 9223372036854775807) : IntKind.i64.wrap (a : Int) = a := by simp [IntKind.wrap, IntKind.bits, IntKind.signed]; omega
theorem insT_set {α : Type} {d : List α} {x : α} {i j : Nat} (hi : i < d.length) (hj : j + 1 ≤ i) : ((insT d x i (j + 1)).set (j + 1) (d[j]'(by omega))).set j x = insT d x i j := by
  have hl := insT_len (x := x) hi hj
  have h1 := sw_eq (l := insT d x i (j + 1)) (p := j + 1) (q := j) (by omega) (by omega)
  rw [insT_at hi hj, insT_pre hi hj] at h1
  rw [h1, sw_comm, insT_sw hi hj]
attribute [local irreducible] Sl pt ro
set_option maxRecDepth 20000 in
set_option maxHeartbeats 2000000 in
theorem ins_f (F : SP) {a : Option Addr} {c n gf : Nat} {cf : Mk → Mk → Int} (ho : OrdF gf cf) (hw : SWO (ltc cf)) (hn : n ≤ 1125899906842624) {p q : Nat} {d : List Mk} (hd : d.length = n) (hpq : p ≤ q) (hqn : q ≤ n) :
    Fn Try.prog 73 #[.slice a n c, .int .i64 (p : Nat), .int .i64 (q : Nat), .func (.func gf) [].toArray [].toArray] (F * Sl 3 (.slice a n c) n (mcs (d))) (fun v B => ∃ d2, v = .tuple #[] ∧ InsR (ltc cf) p q d d2 ∧ B = F * Sl 3 (.slice a n c) n (mcs (d2))) := by
  refine fn_enterW (args := [.slice a n c, .int .i64 (p : Nat), .int .i64 (q : Nat), .func (.func gf) [].toArray [].toArray]) Try.func73 rfl Try.ntmps73 (by simp) ?_; refine sr ?_; refine tlm ?_; refine tv (by first | exact o_addI rfl rfl (by omega) | exact o_add rfl rfl) ?_; refine tla ?_; refine nq ?_; refine tc_block ?_; refine tc_loop (fun kk ρ BB => ∃ (i : Nat) (d1 : List Mk), (p + 1 ≤ i) ∧ (i ≤ q ∨ (d1 = d ∧ i = p + 1)) ∧ (InsR (ltc cf) p i d d1) ∧ kk = q + 1 - i ∧ ρ 8 = .int .i64 (i : Nat) ∧ ρ 0 = .slice a n c ∧ ρ 1 = .int .i64 (p : Nat) ∧ ρ 2 = .int .i64 (q : Nat) ∧ ρ 3 = .func (.func gf) [].toArray [].toArray ∧ BB = F * Sl 3 (.slice a n c) n (mcs (d1))) (m := q + 1 - (p + 1)) ?_ ?_
  · exact ⟨p + 1, d, by omega, Or.inr ⟨rfl, rfl⟩, insR_short (by omega), rfl, rfl, rfl, rfl, rfl, rfl, rfl⟩
  · intro k ρ B hI
    obtain ⟨i, d1, hp0, hp1, hp2, hkk1, hE8, hE0, hE1, hE2, hE3, rfl⟩ := hI
    refine tc_env (d := 8) hE8 ?_; refine tc_env (d := 0) hE0 ?_; refine tc_env (d := 1) hE1 ?_; refine tc_env (d := 2) hE2 ?_; refine tc_env (d := 3) hE3 ?_
    clear hE8 hE0 hE1 hE2 hE3
    refine tc_seq ?_; refine sr ?_; refine tlm ?_; refine tlm ?_; refine tv (o_lss rfl rfl) ?_; refine nq ?_; refine tc_cond rfl (fun h => ?_) (fun h => ?_)
    · have hi : i < q := by simp at h; omega
      have hid : i < d1.length := by rw [hp2.len]; omega
      refine tc_have (fun g w h => nn_sl (by decide) g w h (show 0 < n by omega)) fun ⟨bi, oi, ei⟩ => ?_
      subst ei
      obtain ⟨x, hx⟩ : ∃ x, d1[i] = x := ⟨_, rfl⟩
      refine tc_skip ?_; refine q_then_n ?_; refine tc_seq ?_; refine tc_block ?_; refine sr ?_; refine tlm ?_; refine tla ?_; refine nq ?_; refine tc_block ?_; refine tc_loop (fun kk ρ BB => ∃ (j : Nat), (p ≤ j) ∧ (j ≤ i) ∧ (∀ s ∈ (d1.drop j).take (i - j), ltc cf x s = true) ∧ kk = j ∧ ρ 9 = .int .i64 (j : Nat) ∧ ρ 0 = .slice (some ⟨bi, oi, none⟩) n c ∧ ρ 1 = .int .i64 (p : Nat) ∧ ρ 2 = .int .i64 (q : Nat) ∧ ρ 3 = .func (.func gf) [].toArray [].toArray ∧ ρ 8 = .int .i64 (i : Nat) ∧ BB = F * Sl 3 (.slice (some ⟨bi, oi, none⟩) n c) n (mcs (insT d1 x i j))) (m := (i)) ?_ ?_
      · exact ⟨i, by omega, by omega, (fun s hs => by (rw [Nat.sub_self, List.take_zero] at hs; cases hs)), rfl, rfl, rfl, rfl, rfl, rfl, rfl, by rw [← hx, insT_i hid]⟩
      · intro k ρ B hI
        obtain ⟨j, hq0, hq1, hq2, hkk2, hE9, hE0, hE1, hE2, hE3, hE8, rfl⟩ := hI
        refine tc_env (d := 9) hE9 ?_; refine tc_env (d := 0) hE0 ?_; refine tc_env (d := 1) hE1 ?_; refine tc_env (d := 2) hE2 ?_; refine tc_env (d := 3) hE3 ?_; refine tc_env (d := 8) hE8 ?_
        clear hE9 hE0 hE1 hE2 hE3 hE8
        refine tc_seq ?_; refine tc_seq ?_; refine tc_regq mo (by kernel_rfl) ?_; refine ql_v rfl (o_move (by conv => lhs; whnf)) ?_; refine ql_v rfl (o_move (by conv => lhs; whnf)) ?_; refine ql_v rfl (o_gtr rfl rfl) ?_; refine ql_v rfl (o_move (by conv => lhs; whnf)) ?_; refine ql_bool (d := 21) rfl (fun h => ?_) (fun h => ?_)
        · obtain ⟨k, rfl⟩ : ∃ k, j = k + 1 := ⟨j - 1, by simp at h; omega⟩
          have hpk : p ≤ k := by simp at h; omega
          have hil := insT_len (x := x) hid hq1
          refine ql_v rfl (o_move (by conv => lhs; whnf)) ?_; refine ql_v rfl (o_move (by conv => lhs; whnf)) ?_; refine ql_v rfl (o_move (by conv => lhs; whnf)) ?_; refine ql_v rfl (o_ixP (a := some ⟨bi, oi, none⟩) Try.underlying22 sz35 rfl rfl (by omega) nn_some) ?_; refine ql_v rfl (o_ldPN (a := some ⟨bi, oi, none⟩) (vs := (x).cells) a35 sz35 rfl (by repeat (first | with_reducible exact rs_sl | apply Rs.left)) (by rw [mcs_at (by omega), insT_at hid hq1]) rfl (by decide)) ?_; refine ql_v rfl (o_move (by conv => lhs; whnf)) ?_; refine ql_v rfl (o_move (by conv => lhs; whnf)) ?_; refine ql_v rfl (by first | exact o_subI rfl rfl (by omega) | exact o_sub rfl rfl) ?_; refine ql_env (d := 29) (v := .int .i64 (k : Nat)) (by show Value.int .i64 _ = _; congr 1; omega) ?_; refine ql_v rfl (o_ixP (a := some ⟨bi, oi, none⟩) Try.underlying22 sz35 rfl rfl (by omega) nn_some) ?_; refine ql_v rfl (o_ldPN (a := some ⟨bi, oi, none⟩) (vs := (d1[k]'(by omega)).cells) a35 sz35 rfl (by repeat (first | with_reducible exact rs_sl | apply Rs.left)) (by rw [mcs_at (by omega), insT_pre hid hq1]) rfl (by decide)) ?_; refine ql_c rfl (fun w => exec_dyn (ho.body) rfl rfl) (ho.run _ x (d1[k]'(by omega))) ?_; refine ql_v rfl (o_lss rfl rfl) ?_; refine ql_v rfl (o_pick_t rfl (by conv => lhs; whnf)) ?_; refine ql_nil ?_; refine q_then_n ?_; refine tc_cond rfl (fun h => ?_) (fun h => ?_)
          · have hgt := insT_gt (lt := ltc cf) hid hq1 hq2 (by simpa [ltc] using h)
            refine tc_skip ?_; refine q_then_n ?_; refine tc_seq ?_; refine tc_block ?_; refine tc_regh (S := F) mo (by repeat (first | with_reducible exact dr_refl | apply dr_keep | apply dr_drop)) ?_
            show TH _ _ _ _ _ 18 #[ff,ff,ff,ff,ff,ff,ff,ff,ff,ff,ff,ff,ff,ff,ff,ff,ff,ff] _ _
            refine th_take (i := 0) (listed' := #[tt,ff,ff,ff,ff,ff,ff,ff,ff,ff,ff,ff,ff,ff,ff,ff,ff,ff]) rfl (by kernel_rfl) (by kernel_rfl) (by kernel_rfl) rfl rfl (o_move (by conv => lhs; whnf)) ?_; refine th_take (i := 1) (listed' := #[tt,tt,ff,ff,ff,ff,ff,ff,ff,ff,ff,ff,ff,ff,ff,ff,ff,ff]) rfl (by kernel_rfl) (by kernel_rfl) (by kernel_rfl) rfl rfl (o_move (by conv => lhs; whnf)) ?_; refine th_take (i := 2) (listed' := #[tt,tt,tt,ff,ff,ff,ff,ff,ff,ff,ff,ff,ff,ff,ff,ff,ff,ff]) rfl (by kernel_rfl) (by kernel_rfl) (by kernel_rfl) rfl rfl (o_move (by conv => lhs; whnf)) ?_; refine th_take (i := 3) (listed' := #[tt,tt,tt,tt,ff,ff,ff,ff,ff,ff,ff,ff,ff,ff,ff,ff,ff,ff]) rfl (by kernel_rfl) (by kernel_rfl) (by kernel_rfl) rfl rfl (o_move (by conv => lhs; whnf)) ?_; refine th_take (i := 4) (listed' := #[tt,tt,tt,tt,tt,ff,ff,ff,ff,ff,ff,ff,ff,ff,ff,ff,ff,ff]) rfl (by kernel_rfl) (by kernel_rfl) (by kernel_rfl) rfl rfl (by first | exact o_subI rfl rfl (by omega) | exact o_sub rfl rfl) ?_; refine th_env (d := 41) (v := .int .i64 (k : Nat)) (by show Value.int .i64 _ = _; congr 1; omega) ?_; refine th_take (i := 5) (listed' := #[tt,tt,tt,tt,tt,tt,ff,ff,ff,ff,ff,ff,ff,ff,ff,ff,ff,ff]) rfl (by kernel_rfl) (by kernel_rfl) (by kernel_rfl) rfl rfl (o_move (by conv => lhs; whnf)) ?_; refine th_take (i := 6) (listed' := #[tt,tt,tt,tt,tt,tt,tt,ff,ff,ff,ff,ff,ff,ff,ff,ff,ff,ff]) rfl (by kernel_rfl) (by kernel_rfl) (by kernel_rfl) rfl rfl (o_move (by conv => lhs; whnf)) ?_
            refine th_take (i := 7) (listed' := #[tt,tt,tt,tt,tt,tt,tt,tt,ff,ff,ff,ff,ff,ff,ff,ff,ff,ff]) rfl (by kernel_rfl) (by kernel_rfl) (by kernel_rfl) rfl rfl (by first | exact o_subI rfl rfl (by omega) | exact o_sub rfl rfl) ?_; refine th_env (d := 44) (v := .int .i64 (k : Nat)) (by show Value.int .i64 _ = _; congr 1; omega) ?_; refine th_take (i := 8) (listed' := #[tt,tt,tt,tt,tt,tt,tt,tt,tt,ff,ff,ff,ff,ff,ff,ff,ff,ff]) rfl (by kernel_rfl) (by kernel_rfl) (by kernel_rfl) rfl rfl (o_ixP (a := some ⟨bi, oi, none⟩) Try.underlying22 sz35 rfl rfl (by omega) nn_some) ?_; refine th_take (i := 10) (listed' := #[tt,tt,tt,tt,tt,tt,tt,tt,tt,ff,tt,ff,ff,ff,ff,ff,ff,ff]) rfl (by kernel_rfl) (by kernel_rfl) (by kernel_rfl) rfl rfl (o_move (by conv => lhs; whnf)) ?_; refine th_take (i := 11) (listed' := #[tt,tt,tt,tt,tt,tt,tt,tt,tt,ff,tt,tt,ff,ff,ff,ff,ff,ff]) rfl (by kernel_rfl) (by kernel_rfl) (by kernel_rfl) rfl rfl (o_move (by conv => lhs; whnf)) ?_; refine th_take (i := 12) (listed' := #[tt,tt,tt,tt,tt,tt,tt,tt,tt,ff,tt,tt,tt,ff,ff,ff,ff,ff]) rfl (by kernel_rfl) (by kernel_rfl) (by kernel_rfl) rfl rfl (o_ixP (a := some ⟨bi, oi, none⟩) Try.underlying22 sz35 rfl rfl (by omega) nn_some) ?_; refine th_two (i := 9) (j := 13) (by kernel_rfl) ?_ ?_
            · skip
              refine oh_v (i := 9) (listed' := #[tt,tt,tt,tt,tt,tt,tt,tt,tt,tt,tt,tt,tt,ff,ff,ff,ff,ff]) rfl rfl rfl (o_ldPN (a := some ⟨bi, oi, none⟩) (vs := (d1[k]'(by omega)).cells) a35 sz35 rfl (by repeat (first | with_reducible exact rs_sl | apply Rs.left)) (by rw [mcs_at (by omega), insT_pre hid hq1]) rfl (by decide)) ?_; refine th_one (i := 13) (by kernel_rfl) ?_; refine oh_v (i := 13) (listed' := #[tt,tt,tt,tt,tt,tt,tt,tt,tt,tt,tt,tt,tt,tt,ff,ff,ff,ff]) rfl rfl rfl (o_ldPN (a := some ⟨bi, oi, none⟩) (vs := (x).cells) a35 sz35 rfl (by repeat (first | with_reducible exact rs_sl | apply Rs.left)) (by rw [mcs_at (by omega), insT_at hid hq1]) rfl (by decide)) ?_; refine th_take (i := 14) (listed' := #[tt,tt,tt,tt,tt,tt,tt,tt,tt,tt,tt,tt,tt,tt,tt,ff,ff,ff]) rfl (by kernel_rfl) (by kernel_rfl) (by kernel_rfl) rfl rfl (o_ixP (a := some ⟨bi, oi, none⟩) Try.underlying22 sz35 rfl rfl (by omega) nn_some) ?_; refine th_one (i := 15) (by kernel_rfl) ?_; refine oh_u (i := 15) (listed' := #[tt,tt,tt,tt,tt,tt,tt,tt,tt,tt,tt,tt,tt,tt,tt,tt,ff,ff]) rfl rfl rfl (o_stPN (a := some ⟨bi, oi, none⟩) (vs := (d1[k]'(by omega)).cells) (ys := mcs ((insT d1 x i (k + 1)).set (k + 1) (d1[k]'(by omega)))) sz35 rfl rfl rfl rfl (by decide) (by repeat (first | with_reducible exact ct_here | apply ct_left)) (by omega) (mcs_spl (by omega))) (by repeat (first | with_reducible exact dr_refl | apply dr_keep | apply dr_drop)) ?_; refine th_take (i := 16) (listed' := #[tt,tt,tt,tt,tt,tt,tt,tt,tt,tt,tt,tt,tt,tt,tt,tt,tt,ff]) rfl (by kernel_rfl) (by kernel_rfl) (by kernel_rfl) rfl rfl (o_ixP (a := some ⟨bi, oi, none⟩) Try.underlying22 sz35 rfl rfl (by omega) nn_some) ?_
              refine th_one (i := 17) (by kernel_rfl) ?_; refine oh_u (i := 17) (listed' := #[tt,tt,tt,tt,tt,tt,tt,tt,tt,tt,tt,tt,tt,tt,tt,tt,tt,tt]) rfl rfl rfl (o_stPN (a := some ⟨bi, oi, none⟩) (vs := (x).cells) (ys := mcs (((insT d1 x i (k + 1)).set (k + 1) (d1[k]'(by omega))).set (k) (x))) sz35 rfl rfl rfl rfl (by decide) (by repeat (first | with_reducible exact ct_here | apply ct_left)) (by omega) (mcs_spl (by rw [List.length_set]; omega))) (by repeat (first | with_reducible exact dr_refl | apply dr_keep | apply dr_drop)) ?_; refine th_done (by kernel_rfl) ?_; refine q_block_n (q_then_n ?_); refine tc_reg ?_; refine tlm ?_; refine tv (by first | exact o_subI rfl rfl (by omega) | exact o_sub rfl rfl) ?_; refine tl_env (d := 36) (v := .int .i64 (k : Nat)) (by show Value.int .i64 _ = _; congr 1; omega) ?_; refine tla ?_; refine nq ?_; exact ⟨_, by omega, k, by omega, by omega, hgt, rfl, rfl, rfl, rfl, rfl, rfl, rfl, by rw [insT_set hid (by omega)]⟩
            · skip
              refine oh_v (i := 13) (listed' := #[tt,tt,tt,tt,tt,tt,tt,tt,tt,ff,tt,tt,tt,tt,ff,ff,ff,ff]) rfl rfl rfl (o_ldPN (a := some ⟨bi, oi, none⟩) (vs := (x).cells) a35 sz35 rfl (by repeat (first | with_reducible exact rs_sl | apply Rs.left)) (by rw [mcs_at (by omega), insT_at hid hq1]) rfl (by decide)) ?_; refine th_one (i := 9) (by kernel_rfl) ?_; refine oh_v (i := 9) (listed' := #[tt,tt,tt,tt,tt,tt,tt,tt,tt,tt,tt,tt,tt,tt,ff,ff,ff,ff]) rfl rfl rfl (o_ldPN (a := some ⟨bi, oi, none⟩) (vs := (d1[k]'(by omega)).cells) a35 sz35 rfl (by repeat (first | with_reducible exact rs_sl | apply Rs.left)) (by rw [mcs_at (by omega), insT_pre hid hq1]) rfl (by decide)) ?_; refine th_take (i := 14) (listed' := #[tt,tt,tt,tt,tt,tt,tt,tt,tt,tt,tt,tt,tt,tt,tt,ff,ff,ff]) rfl (by kernel_rfl) (by kernel_rfl) (by kernel_rfl) rfl rfl (o_ixP (a := some ⟨bi, oi, none⟩) Try.underlying22 sz35 rfl rfl (by omega) nn_some) ?_; refine th_one (i := 15) (by kernel_rfl) ?_; refine oh_u (i := 15) (listed' := #[tt,tt,tt,tt,tt,tt,tt,tt,tt,tt,tt,tt,tt,tt,tt,tt,ff,ff]) rfl rfl rfl (o_stPN (a := some ⟨bi, oi, none⟩) (vs := (d1[k]'(by omega)).cells) (ys := mcs ((insT d1 x i (k + 1)).set (k + 1) (d1[k]'(by omega)))) sz35 rfl rfl rfl rfl (by decide) (by repeat (first | with_reducible exact ct_here | apply ct_left)) (by omega) (mcs_spl (by omega))) (by repeat (first | with_reducible exact dr_refl | apply dr_keep | apply dr_drop)) ?_; refine th_take (i := 16) (listed' := #[tt,tt,tt,tt,tt,tt,tt,tt,tt,tt,tt,tt,tt,tt,tt,tt,tt,ff]) rfl (by kernel_rfl) (by kernel_rfl) (by kernel_rfl) rfl rfl (o_ixP (a := some ⟨bi, oi, none⟩) Try.underlying22 sz35 rfl rfl (by omega) nn_some) ?_
              refine th_one (i := 17) (by kernel_rfl) ?_; refine oh_u (i := 17) (listed' := #[tt,tt,tt,tt,tt,tt,tt,tt,tt,tt,tt,tt,tt,tt,tt,tt,tt,tt]) rfl rfl rfl (o_stPN (a := some ⟨bi, oi, none⟩) (vs := (x).cells) (ys := mcs (((insT d1 x i (k + 1)).set (k + 1) (d1[k]'(by omega))).set (k) (x))) sz35 rfl rfl rfl rfl (by decide) (by repeat (first | with_reducible exact ct_here | apply ct_left)) (by omega) (mcs_spl (by rw [List.length_set]; omega))) (by repeat (first | with_reducible exact dr_refl | apply dr_keep | apply dr_drop)) ?_; refine th_done (by kernel_rfl) ?_; refine q_block_n (q_then_n ?_); refine tc_reg ?_; refine tlm ?_; refine tv (by first | exact o_subI rfl rfl (by omega) | exact o_sub rfl rfl) ?_; refine tl_env (d := 36) (v := .int .i64 (k : Nat)) (by show Value.int .i64 _ = _; congr 1; omega) ?_; refine tla ?_; refine nq ?_; exact ⟨_, by omega, k, by omega, by omega, hgt, rfl, rfl, rfl, rfl, rfl, rfl, rfl, by rw [insT_set hid (by omega)]⟩
          · have hdone : InsR (ltc cf) p (i + 1) d (insT d1 x i (k + 1)) := by subst hx; exact ins_done hw hid hq0 hq1 hp2 hq2 (.inr ⟨by omega, by simpa [ltc] using h⟩)
            refine tc_exit ?_; refine q_then_e (q_then_e (q_block_x (q_block_n (q_then_n ?_)))); refine tc_reg ?_; refine tlm ?_; refine tv (by first | exact o_addI rfl rfl (by omega) | exact o_add rfl rfl) ?_; refine tla ?_; refine nq ?_; exact ⟨_, by omega, i + 1, _, by omega, Or.inl (by omega), by exact hdone, rfl, rfl, rfl, rfl, rfl, rfl, rfl⟩
        · have hdone : InsR (ltc cf) p (i + 1) d (insT d1 x i j) := by subst hx; exact ins_done hw hid hq0 hq1 hp2 hq2 (.inl (by simp at h; omega))
          refine ql_skip rfl ?_; refine ql_skip rfl ?_; refine ql_skip rfl ?_; refine ql_skip rfl ?_; refine ql_skip rfl ?_; refine ql_skip rfl ?_; refine ql_skip rfl ?_; refine ql_skip rfl ?_; refine ql_skip rfl ?_; refine ql_skip rfl ?_; refine ql_skip rfl ?_; refine ql_skip rfl ?_; refine ql_v rfl (o_pick_f rfl (by conv => lhs; whnf)) ?_; refine ql_nil ?_; refine q_then_n ?_; refine tc_cond_f rfl ?_; refine tc_exit ?_; refine q_then_e (q_then_e (q_block_x (q_block_n (q_then_n ?_)))); refine tc_reg ?_; refine tlm ?_; refine tv (by first | exact o_addI rfl rfl (by omega) | exact o_add rfl rfl) ?_; refine tla ?_; refine nq ?_; exact ⟨_, by omega, i + 1, _, by omega, Or.inl (by omega), by exact hdone, rfl, rfl, rfl, rfl, rfl, rfl, rfl⟩
    · try simp only [lv1, lv2, lv3, lv4, lv5, lv6, Bool.not_true, Bool.not_false] at h
      refine tc_exit ?_; refine q_then_e (q_then_e (q_block_x ?_))
      have hge : q ≤ i := by simp at h; omega
      have hdn : InsR (ltc cf) p q d d1 := by
        rcases hp1 with h1 | ⟨rfl, rfl⟩
        · obtain rfl : i = q := by omega
          exact hp2
        · exact insR_short (by omega)
      exact ⟨.tuple #[], F * Sl 3 (.slice a n c) n (mcs (d1)), res0 rfl, Dr.sat (by repeat (first | with_reducible exact dr_refl | apply dr_keep | apply dr_drop)), d1, rfl, hdn, rfl⟩
set_option maxRecDepth 20000 in
set_option maxHeartbeats 2000000 in
theorem swp_f (F : SP) {a : Option Addr} {c n p q kk_ : Nat} {v : Value} (hn : n ≤ 1125899906842624) {d : List Mk} (hd : d.length = n) (h1 : p + kk_ ≤ q) (h2 : q + kk_ ≤ n) :
    Fn Try.prog 76 #[.slice a n c, .int .i64 (p : Nat), .int .i64 (q : Nat), .int .i64 (kk_ : Nat), v] (F * Sl 3 (.slice a n c) n (mcs (d))) (fun r B => r = .tuple #[] ∧ B = F * Sl 3 (.slice a n c) n (mcs (swR d p q kk_))) := by
  refine fn_enterW (args := [.slice a n c, .int .i64 (p : Nat), .int .i64 (q : Nat), .int .i64 (kk_ : Nat), v]) Try.func76 rfl Try.ntmps76 (by simp) ?_; refine sr ?_; refine tla ?_; refine nq ?_; refine tc_block ?_; refine tc_loop (fun kk ρ BB => ∃ (i : Nat), (i ≤ kk_) ∧ kk = kk_ - i ∧ ρ 10 = .int .i64 (i : Nat) ∧ ρ 0 = .slice a n c ∧ ρ 1 = .int .i64 (p : Nat) ∧ ρ 2 = .int .i64 (q : Nat) ∧ ρ 3 = .int .i64 (kk_ : Nat) ∧ BB = F * Sl 3 (.slice a n c) n (mcs (swR d p q i))) (m := kk_ - (0)) ?_ ?_
  · exact ⟨0, by omega, rfl, rfl, rfl, rfl, rfl, rfl, rfl⟩
  · intro k ρ B hI
    obtain ⟨i, hp0, hkk1, hE10, hE0, hE1, hE2, hE3, rfl⟩ := hI
    refine tc_env (d := 10) hE10 ?_; refine tc_env (d := 0) hE0 ?_; refine tc_env (d := 1) hE1 ?_; refine tc_env (d := 2) hE2 ?_; refine tc_env (d := 3) hE3 ?_
    clear hE10 hE0 hE1 hE2 hE3
    refine tc_seq ?_; refine sr ?_; refine tlm ?_; refine tlm ?_; refine tv (o_lss rfl rfl) ?_; refine nq ?_; refine tc_cond rfl (fun h => ?_) (fun h => ?_)
    · have hi : i < kk_ := by simp at h; omega
      have hl := swR_length d p q i
      refine tc_have (fun g w h => nn_sl (by decide) g w h (show 0 < n by omega)) fun ⟨bi, oi, ei⟩ => ?_
      subst ei
      refine tc_skip ?_; refine q_then_n ?_; refine tc_seq ?_; refine tc_block ?_; refine tc_regh (S := F) mo (by repeat (first | with_reducible exact dr_refl | apply dr_keep | apply dr_drop)) ?_
      show TH _ _ _ _ _ 24 #[ff,ff,ff,ff,ff,ff,ff,ff,ff,ff,ff,ff,ff,ff,ff,ff,ff,ff,ff,ff,ff,ff,ff,ff] _ _
      refine th_take (i := 0) (listed' := #[tt,ff,ff,ff,ff,ff,ff,ff,ff,ff,ff,ff,ff,ff,ff,ff,ff,ff,ff,ff,ff,ff,ff,ff]) rfl (by kernel_rfl) (by kernel_rfl) (by kernel_rfl) rfl rfl (o_move (by conv => lhs; whnf)) ?_; refine th_take (i := 1) (listed' := #[tt,tt,ff,ff,ff,ff,ff,ff,ff,ff,ff,ff,ff,ff,ff,ff,ff,ff,ff,ff,ff,ff,ff,ff]) rfl (by kernel_rfl) (by kernel_rfl) (by kernel_rfl) rfl rfl (o_move (by conv => lhs; whnf)) ?_; refine th_take (i := 2) (listed' := #[tt,tt,tt,ff,ff,ff,ff,ff,ff,ff,ff,ff,ff,ff,ff,ff,ff,ff,ff,ff,ff,ff,ff,ff]) rfl (by kernel_rfl) (by kernel_rfl) (by kernel_rfl) rfl rfl (o_move (by conv => lhs; whnf)) ?_; refine th_take (i := 3) (listed' := #[tt,tt,tt,tt,ff,ff,ff,ff,ff,ff,ff,ff,ff,ff,ff,ff,ff,ff,ff,ff,ff,ff,ff,ff]) rfl (by kernel_rfl) (by kernel_rfl) (by kernel_rfl) rfl rfl (by first | exact o_addI rfl rfl (by omega) | exact o_add rfl rfl) ?_; refine th_env (d := 19) (v := .int .i64 ((p + i : Nat) : Int)) (rfl) ?_; refine th_take (i := 4) (listed' := #[tt,tt,tt,tt,tt,ff,ff,ff,ff,ff,ff,ff,ff,ff,ff,ff,ff,ff,ff,ff,ff,ff,ff,ff]) rfl (by kernel_rfl) (by kernel_rfl) (by kernel_rfl) rfl rfl (o_move (by conv => lhs; whnf)) ?_; refine th_take (i := 5) (listed' := #[tt,tt,tt,tt,tt,tt,ff,ff,ff,ff,ff,ff,ff,ff,ff,ff,ff,ff,ff,ff,ff,ff,ff,ff]) rfl (by kernel_rfl) (by kernel_rfl) (by kernel_rfl) rfl rfl (o_move (by conv => lhs; whnf)) ?_; refine th_take (i := 6) (listed' := #[tt,tt,tt,tt,tt,tt,tt,ff,ff,ff,ff,ff,ff,ff,ff,ff,ff,ff,ff,ff,ff,ff,ff,ff]) rfl (by kernel_rfl) (by kernel_rfl) (by kernel_rfl) rfl rfl (o_move (by conv => lhs; whnf)) ?_
      refine th_take (i := 7) (listed' := #[tt,tt,tt,tt,tt,tt,tt,tt,ff,ff,ff,ff,ff,ff,ff,ff,ff,ff,ff,ff,ff,ff,ff,ff]) rfl (by kernel_rfl) (by kernel_rfl) (by kernel_rfl) rfl rfl (by first | exact o_addI rfl rfl (by omega) | exact o_add rfl rfl) ?_; refine th_env (d := 23) (v := .int .i64 ((q + i : Nat) : Int)) (rfl) ?_; refine th_take (i := 8) (listed' := #[tt,tt,tt,tt,tt,tt,tt,tt,tt,ff,ff,ff,ff,ff,ff,ff,ff,ff,ff,ff,ff,ff,ff,ff]) rfl (by kernel_rfl) (by kernel_rfl) (by kernel_rfl) rfl rfl (o_move (by conv => lhs; whnf)) ?_; refine th_take (i := 9) (listed' := #[tt,tt,tt,tt,tt,tt,tt,tt,tt,tt,ff,ff,ff,ff,ff,ff,ff,ff,ff,ff,ff,ff,ff,ff]) rfl (by kernel_rfl) (by kernel_rfl) (by kernel_rfl) rfl rfl (o_move (by conv => lhs; whnf)) ?_; refine th_take (i := 10) (listed' := #[tt,tt,tt,tt,tt,tt,tt,tt,tt,tt,tt,ff,ff,ff,ff,ff,ff,ff,ff,ff,ff,ff,ff,ff]) rfl (by kernel_rfl) (by kernel_rfl) (by kernel_rfl) rfl rfl (o_move (by conv => lhs; whnf)) ?_; refine th_take (i := 11) (listed' := #[tt,tt,tt,tt,tt,tt,tt,tt,tt,tt,tt,tt,ff,ff,ff,ff,ff,ff,ff,ff,ff,ff,ff,ff]) rfl (by kernel_rfl) (by kernel_rfl) (by kernel_rfl) rfl rfl (by first | exact o_addI rfl rfl (by omega) | exact o_add rfl rfl) ?_; refine th_env (d := 27) (v := .int .i64 ((q + i : Nat) : Int)) (rfl) ?_; refine th_take (i := 12) (listed' := #[tt,tt,tt,tt,tt,tt,tt,tt,tt,tt,tt,tt,tt,ff,ff,ff,ff,ff,ff,ff,ff,ff,ff,ff]) rfl (by kernel_rfl) (by kernel_rfl) (by kernel_rfl) rfl rfl (o_ixP (a := some ⟨bi, oi, none⟩) Try.underlying22 sz35 rfl rfl (by omega) nn_some) ?_
      refine th_take (i := 14) (listed' := #[tt,tt,tt,tt,tt,tt,tt,tt,tt,tt,tt,tt,tt,ff,tt,ff,ff,ff,ff,ff,ff,ff,ff,ff]) rfl (by kernel_rfl) (by kernel_rfl) (by kernel_rfl) rfl rfl (o_move (by conv => lhs; whnf)) ?_; refine th_take (i := 15) (listed' := #[tt,tt,tt,tt,tt,tt,tt,tt,tt,tt,tt,tt,tt,ff,tt,tt,ff,ff,ff,ff,ff,ff,ff,ff]) rfl (by kernel_rfl) (by kernel_rfl) (by kernel_rfl) rfl rfl (o_move (by conv => lhs; whnf)) ?_; refine th_take (i := 16) (listed' := #[tt,tt,tt,tt,tt,tt,tt,tt,tt,tt,tt,tt,tt,ff,tt,tt,tt,ff,ff,ff,ff,ff,ff,ff]) rfl (by kernel_rfl) (by kernel_rfl) (by kernel_rfl) rfl rfl (o_move (by conv => lhs; whnf)) ?_; refine th_take (i := 17) (listed' := #[tt,tt,tt,tt,tt,tt,tt,tt,tt,tt,tt,tt,tt,ff,tt,tt,tt,tt,ff,ff,ff,ff,ff,ff]) rfl (by kernel_rfl) (by kernel_rfl) (by kernel_rfl) rfl rfl (by first | exact o_addI rfl rfl (by omega) | exact o_add rfl rfl) ?_; refine th_env (d := 33) (v := .int .i64 ((p + i : Nat) : Int)) (rfl) ?_; refine th_take (i := 18) (listed' := #[tt,tt,tt,tt,tt,tt,tt,tt,tt,tt,tt,tt,tt,ff,tt,tt,tt,tt,tt,ff,ff,ff,ff,ff]) rfl (by kernel_rfl) (by kernel_rfl) (by kernel_rfl) rfl rfl (o_ixP (a := some ⟨bi, oi, none⟩) Try.underlying22 sz35 rfl rfl (by omega) nn_some) ?_; refine th_two (i := 13) (j := 19) (by kernel_rfl) ?_ ?_
      · skip
        refine oh_v (i := 13) (listed' := #[tt,tt,tt,tt,tt,tt,tt,tt,tt,tt,tt,tt,tt,tt,tt,tt,tt,tt,tt,ff,ff,ff,ff,ff]) rfl rfl rfl (o_ldPN (a := some ⟨bi, oi, none⟩) (vs := ((swR d p q i)[q + i]'(by omega)).cells) a35 sz35 rfl (by repeat (first | with_reducible exact rs_sl | apply Rs.left)) (by rw [mcs_at (by omega)]) rfl (by decide)) ?_; refine th_one (i := 19) (by kernel_rfl) ?_; refine oh_v (i := 19) (listed' := #[tt,tt,tt,tt,tt,tt,tt,tt,tt,tt,tt,tt,tt,tt,tt,tt,tt,tt,tt,tt,ff,ff,ff,ff]) rfl rfl rfl (o_ldPN (a := some ⟨bi, oi, none⟩) (vs := ((swR d p q i)[p + i]'(by omega)).cells) a35 sz35 rfl (by repeat (first | with_reducible exact rs_sl | apply Rs.left)) (by rw [mcs_at (by omega)]) rfl (by decide)) ?_; refine th_take (i := 20) (listed' := #[tt,tt,tt,tt,tt,tt,tt,tt,tt,tt,tt,tt,tt,tt,tt,tt,tt,tt,tt,tt,tt,ff,ff,ff]) rfl (by kernel_rfl) (by kernel_rfl) (by kernel_rfl) rfl rfl (o_ixP (a := some ⟨bi, oi, none⟩) Try.underlying22 sz35 rfl rfl (by omega) nn_some) ?_; refine th_one (i := 21) (by kernel_rfl) ?_; refine oh_u (i := 21) (listed' := #[tt,tt,tt,tt,tt,tt,tt,tt,tt,tt,tt,tt,tt,tt,tt,tt,tt,tt,tt,tt,tt,tt,ff,ff]) rfl rfl rfl (o_stPN (a := some ⟨bi, oi, none⟩) (vs := ((swR d p q i)[q + i]'(by omega)).cells) (ys := mcs ((swR d p q i).set (p + i) ((swR d p q i)[q + i]'(by omega)))) sz35 rfl rfl rfl rfl (by decide) (by repeat (first | with_reducible exact ct_here | apply ct_left)) (by omega) (mcs_spl (by omega))) (by repeat (first | with_reducible exact dr_refl | apply dr_keep | apply dr_drop)) ?_
        refine th_take (i := 22) (listed' := #[tt,tt,tt,tt,tt,tt,tt,tt,tt,tt,tt,tt,tt,tt,tt,tt,tt,tt,tt,tt,tt,tt,tt,ff]) rfl (by kernel_rfl) (by kernel_rfl) (by kernel_rfl) rfl rfl (o_ixP (a := some ⟨bi, oi, none⟩) Try.underlying22 sz35 rfl rfl (by omega) nn_some) ?_; refine th_one (i := 23) (by kernel_rfl) ?_; refine oh_u (i := 23) (listed' := #[tt,tt,tt,tt,tt,tt,tt,tt,tt,tt,tt,tt,tt,tt,tt,tt,tt,tt,tt,tt,tt,tt,tt,tt]) rfl rfl rfl (o_stPN (a := some ⟨bi, oi, none⟩) (vs := ((swR d p q i)[p + i]'(by omega)).cells) (ys := mcs (((swR d p q i).set (p + i) ((swR d p q i)[q + i]'(by omega))).set (q + i) ((swR d p q i)[p + i]'(by omega)))) sz35 rfl rfl rfl rfl (by decide) (by repeat (first | with_reducible exact ct_here | apply ct_left)) (by omega) (mcs_spl (by rw [List.length_set]; omega))) (by repeat (first | with_reducible exact dr_refl | apply dr_keep | apply dr_drop)) ?_; refine th_done (by kernel_rfl) ?_; refine q_block_n (q_then_n ?_); refine tc_reg ?_; refine tlm ?_; refine tv (by first | exact o_addI rfl rfl (by omega) | exact o_add rfl rfl) ?_; refine tla ?_; refine nq ?_; exact ⟨_, by omega, i + 1, by omega, rfl, rfl, rfl, rfl, rfl, rfl, by rw [sw_eq (by rw [swR_length]; omega) (by rw [swR_length]; omega)]; rfl⟩
      · skip
        refine oh_v (i := 19) (listed' := #[tt,tt,tt,tt,tt,tt,tt,tt,tt,tt,tt,tt,tt,ff,tt,tt,tt,tt,tt,tt,ff,ff,ff,ff]) rfl rfl rfl (o_ldPN (a := some ⟨bi, oi, none⟩) (vs := ((swR d p q i)[p + i]'(by omega)).cells) a35 sz35 rfl (by repeat (first | with_reducible exact rs_sl | apply Rs.left)) (by rw [mcs_at (by omega)]) rfl (by decide)) ?_; refine th_one (i := 13) (by kernel_rfl) ?_; refine oh_v (i := 13) (listed' := #[tt,tt,tt,tt,tt,tt,tt,tt,tt,tt,tt,tt,tt,tt,tt,tt,tt,tt,tt,tt,ff,ff,ff,ff]) rfl rfl rfl (o_ldPN (a := some ⟨bi, oi, none⟩) (vs := ((swR d p q i)[q + i]'(by omega)).cells) a35 sz35 rfl (by repeat (first | with_reducible exact rs_sl | apply Rs.left)) (by rw [mcs_at (by omega)]) rfl (by decide)) ?_; refine th_take (i := 20) (listed' := #[tt,tt,tt,tt,tt,tt,tt,tt,tt,tt,tt,tt,tt,tt,tt,tt,tt,tt,tt,tt,tt,ff,ff,ff]) rfl (by kernel_rfl) (by kernel_rfl) (by kernel_rfl) rfl rfl (o_ixP (a := some ⟨bi, oi, none⟩) Try.underlying22 sz35 rfl rfl (by omega) nn_some) ?_; refine th_one (i := 21) (by kernel_rfl) ?_; refine oh_u (i := 21) (listed' := #[tt,tt,tt,tt,tt,tt,tt,tt,tt,tt,tt,tt,tt,tt,tt,tt,tt,tt,tt,tt,tt,tt,ff,ff]) rfl rfl rfl (o_stPN (a := some ⟨bi, oi, none⟩) (vs := ((swR d p q i)[q + i]'(by omega)).cells) (ys := mcs ((swR d p q i).set (p + i) ((swR d p q i)[q + i]'(by omega)))) sz35 rfl rfl rfl rfl (by decide) (by repeat (first | with_reducible exact ct_here | apply ct_left)) (by omega) (mcs_spl (by omega))) (by repeat (first | with_reducible exact dr_refl | apply dr_keep | apply dr_drop)) ?_
        refine th_take (i := 22) (listed' := #[tt,tt,tt,tt,tt,tt,tt,tt,tt,tt,tt,tt,tt,tt,tt,tt,tt,tt,tt,tt,tt,tt,tt,ff]) rfl (by kernel_rfl) (by kernel_rfl) (by kernel_rfl) rfl rfl (o_ixP (a := some ⟨bi, oi, none⟩) Try.underlying22 sz35 rfl rfl (by omega) nn_some) ?_; refine th_one (i := 23) (by kernel_rfl) ?_; refine oh_u (i := 23) (listed' := #[tt,tt,tt,tt,tt,tt,tt,tt,tt,tt,tt,tt,tt,tt,tt,tt,tt,tt,tt,tt,tt,tt,tt,tt]) rfl rfl rfl (o_stPN (a := some ⟨bi, oi, none⟩) (vs := ((swR d p q i)[p + i]'(by omega)).cells) (ys := mcs (((swR d p q i).set (p + i) ((swR d p q i)[q + i]'(by omega))).set (q + i) ((swR d p q i)[p + i]'(by omega)))) sz35 rfl rfl rfl rfl (by decide) (by repeat (first | with_reducible exact ct_here | apply ct_left)) (by omega) (mcs_spl (by rw [List.length_set]; omega))) (by repeat (first | with_reducible exact dr_refl | apply dr_keep | apply dr_drop)) ?_; refine th_done (by kernel_rfl) ?_; refine q_block_n (q_then_n ?_); refine tc_reg ?_; refine tlm ?_; refine tv (by first | exact o_addI rfl rfl (by omega) | exact o_add rfl rfl) ?_; refine tla ?_; refine nq ?_; exact ⟨_, by omega, i + 1, by omega, rfl, rfl, rfl, rfl, rfl, rfl, by rw [sw_eq (by rw [swR_length]; omega) (by rw [swR_length]; omega)]; rfl⟩
    · try simp only [lv1, lv2, lv3, lv4, lv5, lv6, Bool.not_true, Bool.not_false] at h
      refine tc_exit ?_; refine q_then_e (q_then_e (q_block_x ?_))
      obtain rfl : i = kk_ := by simp at h; omega
      exact ⟨.tuple #[], F * Sl 3 (.slice a n c) n (mcs (swR d p q i)), res0 rfl, Dr.sat (by repeat (first | with_reducible exact dr_refl | apply dr_keep | apply dr_drop)), rfl, rfl⟩
set_option maxRecDepth 20000 in
set_option maxHeartbeats 2000000 in
theorem rot_f (F : SP) {a : Option Addr} {c n p m q : Nat} {v : Value} (hn : n ≤ 1125899906842624) {d : List Mk} (hd : d.length = n) (h1 : p < m) (h2 : m < q) (h3 : q ≤ n) :
    Fn Try.prog 75 #[.slice a n c, .int .i64 (p : Nat), .int .i64 (m : Nat), .int .i64 (q : Nat), v] (F * Sl 3 (.slice a n c) n (mcs (d))) (fun r B => r = .tuple #[] ∧ B = F * Sl 3 (.slice a n c) n (mcs (rotT d p m q))) := by
  refine fn_enterW (args := [.slice a n c, .int .i64 (p : Nat), .int .i64 (m : Nat), .int .i64 (q : Nat), v]) Try.func75 rfl Try.ntmps75 (by simp) ?_; refine sr ?_; refine tlm ?_; refine tlm ?_; refine tv (by first | exact o_subI rfl rfl (by omega) | exact o_sub rfl rfl) ?_; refine tl_env (d := 14) (v := .int .i64 ((m - p : Nat) : Int)) (by show Value.int .i64 _ = _; congr 1; omega) ?_; refine tla ?_; refine nq ?_; refine sr ?_; refine tlm ?_; refine tlm ?_; refine tv (by first | exact o_subI rfl rfl (by omega) | exact o_sub rfl rfl) ?_; refine tl_env (d := 17) (v := .int .i64 ((q - m : Nat) : Int)) (by show Value.int .i64 _ = _; congr 1; omega) ?_; refine tla ?_; refine nq ?_; refine tc_seq ?_; refine tc_block ?_; refine tc_loop (fun kk ρ BB => ∃ (i : Nat) (j : Nat) (d1 : List Mk), (0 < i) ∧ (0 < j) ∧ (RotI m i j d1 (rotT d p m q)) ∧ (d1.length = n) ∧ kk = i + j ∧ ρ 10 = .int .i64 (i : Nat) ∧ ρ 11 = .int .i64 (j : Nat) ∧ ρ 0 = .slice a n c ∧ ρ 2 = .int .i64 (m : Nat) ∧ ρ 4 = v ∧ BB = F * Sl 3 (.slice a n c) n (mcs (d1))) (m := (m - p) + (q - m)) ?_ ?_
  · exact ⟨m - p, q - m, d, by omega, by omega, rot_start (by omega) (by omega) (by omega), hd, rfl, rfl, rfl, rfl, rfl, rfl, rfl⟩
  · intro k ρ B hI
    obtain ⟨i, j, d1, hp0, hp1, hp2, hp3, hkk1, hE10, hE11, hE0, hE2, hE4, rfl⟩ := hI
    refine tc_env (d := 10) hE10 ?_; refine tc_env (d := 11) hE11 ?_; refine tc_env (d := 0) hE0 ?_; refine tc_env (d := 2) hE2 ?_; refine tc_env (d := 4) hE4 ?_
    clear hE10 hE11 hE0 hE2 hE4
    refine tc_seq ?_; refine tc_seq ?_
    have hrl := rotI_len hp2
    refine tc_reg ?_; refine tlm ?_; refine tlm ?_; refine tv (o_nei rfl rfl) ?_; refine nq ?_; refine tc_cond rfl (fun h => ?_) (fun h => ?_)
    · have hij : i ≠ j := by simp at h; omega
      refine tc_skip ?_; refine q_then_n ?_; refine tc_block ?_; refine sr ?_; refine tlm ?_; refine tlm ?_; refine tv (o_gtr rfl rfl) ?_; refine nq ?_; refine tc_cond rfl (fun h => ?_) (fun h => ?_)
      · have hg : j < i := by simp at h; omega
        refine sr ?_; refine tlm ?_; refine tlm ?_; refine tlm ?_; refine tv (by first | exact o_subI rfl rfl (by omega) | exact o_sub rfl rfl) ?_; refine tl_env (d := 27) (v := .int .i64 ((m - i : Nat) : Int)) (by show Value.int .i64 _ = _; congr 1; omega) ?_; refine tlm ?_; refine tlm ?_; refine tlm ?_; refine tl_c rfl (o_call bd76 rfl (swp_f F hn hp3 (by omega) (by omega))) ?_; rintro _ _ ⟨rfl, rfl⟩; refine nq ?_; refine tc_reg ?_; refine tlm ?_; refine tlm ?_; refine tv (by first | exact o_subI rfl rfl (by omega) | exact o_sub rfl rfl) ?_; refine tl_env (d := 34) (v := .int .i64 ((i - j : Nat) : Int)) (by show Value.int .i64 _ = _; congr 1; omega) ?_; refine tla ?_; refine tl_nil ?_; refine q_block_n (q_then_n ?_); exact ⟨_, by show _ < _; omega, _, _, _, by omega, by omega, by first | exact rot_gt hp2 (by omega) | exact rot_lt hp2 (by omega), by rw [swR_length]; exact hp3, rfl, rfl, rfl, rfl, rfl, rfl, rfl⟩
      · have hg : i < j := by simp at h; omega
        refine sr ?_; refine tlm ?_; refine tlm ?_; refine tlm ?_; refine tv (by first | exact o_subI rfl rfl (by omega) | exact o_sub rfl rfl) ?_; refine tl_env (d := 38) (v := .int .i64 ((m - i : Nat) : Int)) (by show Value.int .i64 _ = _; congr 1; omega) ?_; refine tlm ?_; refine tlm ?_; refine tv (by first | exact o_addI rfl rfl (by omega) | exact o_add rfl rfl) ?_; refine tlm ?_; refine tv (by first | exact o_subI rfl rfl (by omega) | exact o_sub rfl rfl) ?_; refine tl_env (d := 43) (v := .int .i64 ((m + j - i : Nat) : Int)) (by show Value.int .i64 _ = _; congr 1; omega) ?_; refine tlm ?_; refine tlm ?_; refine tl_c rfl (o_call bd76 rfl (swp_f F hn hp3 (by omega) (by omega))) ?_; rintro _ _ ⟨rfl, rfl⟩; refine nq ?_; refine tc_reg ?_; refine tlm ?_; refine tlm ?_; refine tv (by first | exact o_subI rfl rfl (by omega) | exact o_sub rfl rfl) ?_; refine tl_env (d := 49) (v := .int .i64 ((j - i : Nat) : Int)) (by show Value.int .i64 _ = _; congr 1; omega) ?_; refine tla ?_; refine tl_nil ?_; refine q_block_n (q_then_n ?_); exact ⟨_, by show _ < _; omega, _, _, _, by omega, by omega, by first | exact rot_gt hp2 (by omega) | exact rot_lt hp2 (by omega), by rw [swR_length]; exact hp3, rfl, rfl, rfl, rfl, rfl, rfl, rfl⟩
    · have hij : i = j := by simp at h; omega
      subst hij
      refine tc_exit ?_; refine q_then_e (q_then_e (q_block_x (q_then_n ?_))); refine tc_reg ?_; refine tlm ?_; refine tlm ?_; refine tlm ?_; refine tv (by first | exact o_subI rfl rfl (by omega) | exact o_sub rfl rfl) ?_; refine tl_env (d := 53) (v := .int .i64 ((m - i : Nat) : Int)) (by show Value.int .i64 _ = _; congr 1; omega) ?_; refine tlm ?_; refine tlm ?_; refine tlm ?_; refine tl_c rfl (o_call bd76 rfl (swp_f F hn hp3 (by omega) (by omega))) ?_; rintro _ _ ⟨rfl, rfl⟩; refine tl_nil ?_
      rw [rot_eq hp2]
      exact ⟨.tuple #[], F * Sl 3 (.slice a n c) n (mcs (rotT d p m q)), res0 rfl, Dr.sat (by repeat (first | with_reducible exact dr_refl | apply dr_keep | apply dr_drop)), rfl, rfl⟩
end Go.Vl

set_option linter.unusedVariables false
set_option linter.unusedSimpArgs false
namespace Go.Vl
open Go Go.Proofs
def gA (d : List Mk) (k : Nat) : Mk := d.getD k ⟨0, 0, 0⟩
theorem gA_eq {d : List Mk} {k : Nat} (h : k < d.length) : d[k] = gA d k := by unfold gA; rw [List.getD_eq_getElem?_getD, List.getElem?_eq_getElem h]; rfl
section
variable {α : Type} {lt : α → α → Bool}
theorem rotT_triv {d : List α} {p m q : Nat} (h1 : p ≤ m) (h2 : m ≤ q) (h : m = p ∨ m = q) : rotT d p m q = d := by
  conv => rhs; rw [three_split (d := d) h1 h2]
  unfold rotT
  rcases h with rfl | rfl
  · rw [Nat.sub_self, List.take_zero, List.nil_append, List.nil_append]
  · rw [Nat.sub_self, List.take_zero, List.nil_append, List.nil_append]
theorem rotT_len {d : List α} {p m q : Nat} (h1 : p ≤ m) (h2 : m ≤ q) (h3 : q ≤ d.length) : (rotT d p m q).length = d.length := by
  unfold rotT
  simp only [List.length_append, List.length_take, List.length_drop]; omega
theorem rot_p1 {d : List α} {p s m e : Nat} (h1 : p ≤ s) (h2 : s ≤ d.length) : ((rotT d s m e).drop p).take (s - p) = (d.drop p).take (s - p) := by
  unfold rotT
  rw [List.drop_append_of_le_length (by rw [List.length_take]; omega), List.take_append_of_le_length (by rw [List.length_drop, List.length_take]; omega), List.drop_take, List.take_take, Nat.min_self]
theorem rot_p2 {d : List α} {s m e : Nat} (h1 : s ≤ m) (h2 : m ≤ e) (h3 : e ≤ d.length) : ((rotT d s m e).drop s).take (e - m) = (d.drop m).take (e - m) := by
  unfold rotT
  rw [List.drop_left' (by rw [List.length_take]; omega), List.take_left' (by rw [List.length_take, List.length_drop]; omega)]
theorem rot_p3 {d : List α} {s m e : Nat} (h1 : s ≤ m) (h2 : m ≤ e) (h3 : e ≤ d.length) : ((rotT d s m e).drop (s + (e - m))).take (m - s) = (d.drop s).take (m - s) := by
  unfold rotT
  rw [← List.append_assoc, List.drop_left' (by rw [List.length_append, List.length_take, List.length_take, List.length_drop]; omega), List.take_left' (by rw [List.length_take, List.length_drop]; omega)]
theorem rot_p4 {d : List α} {s m e : Nat} (h1 : s ≤ m) (h2 : m ≤ e) (h3 : e ≤ d.length) : (rotT d s m e).drop e = d.drop e := by
  unfold rotT
  rw [← List.append_assoc, ← List.append_assoc, List.drop_left' (by simp only [List.length_append, List.length_take, List.length_drop]; omega)]
theorem symT_drop {d : List α} {p m q : Nat} (h1 : p ≤ m) (h2 : m ≤ q) (h3 : q ≤ d.length) : (symT lt d p m q).drop q = d.drop q := by
  unfold symT
  rw [← List.append_assoc, List.drop_left' (by rw [List.length_append, mg_length, List.length_take, List.length_take, List.length_take, List.length_drop, List.length_drop]; omega)]
theorem sd_take {l : List α} (h : Sd lt l) (k : Nat) : Sd lt (l.take k) := List.Pairwise.sublist (List.take_sublist k l) h
theorem sd_drop {l : List α} (h : Sd lt l) (k : Nat) : Sd lt (l.drop k) := List.Pairwise.sublist (List.drop_sublist k l) h
/-- The element p stands at k. -/
def fwT (d : List α) (x : α) (p k : Nat) : List α := d.take p ++ ((d.drop (p + 1)).take (k - p) ++ x :: d.drop (k + 1))
theorem fwT_p {d : List α} {p : Nat} (h : p < d.length) : fwT d d[p] p p = d := by
  unfold fwT
  rw [Nat.sub_self, List.take_zero, List.nil_append, ← List.drop_eq_getElem_cons h, List.take_append_drop]
theorem fwT_len {d : List α} {x : α} {p k : Nat} (h : p ≤ k) (hk : k < d.length) : (fwT d x p k).length = d.length := by
  unfold fwT
  simp only [List.length_append, List.length_cons, List.length_take, List.length_drop]; omega
theorem fwT_at {d : List α} {x : α} {p k : Nat} (h : p ≤ k) (hk : k < d.length) : (fwT d x p k)[k]'(by rw [fwT_len h hk]; exact hk) = x := by
  have e : (fwT d x p k)[k]? = some x := by
    unfold fwT
    rw [← List.append_assoc, List.getElem?_append_right (by simp only [List.length_append, List.length_take, List.length_drop]; omega)]
    simp only [List.length_append, List.length_take, List.length_drop]
    rw [show k - (min p d.length + min (k - p) (d.length - (p + 1))) = 0 by omega]; rfl
  have hl := fwT_len (x := x) h hk
  rw [List.getElem?_eq_getElem (by omega)] at e
  exact Option.some.inj e
theorem fwT_post {d : List α} {x : α} {p k : Nat} (h : p ≤ k) (hk : k + 1 < d.length) : (fwT d x p k)[k + 1]'(by rw [fwT_len h (by omega)]; exact hk) = d[k + 1] := by
  have e : (fwT d x p k)[k + 1]? = d[k + 1]? := by
    unfold fwT
    rw [← List.append_assoc, List.getElem?_append_right (by simp only [List.length_append, List.length_take, List.length_drop]; omega)]
    simp only [List.length_append, List.length_take, List.length_drop]
    rw [show k + 1 - (min p d.length + min (k - p) (d.length - (p + 1))) = 0 + 1 by omega, List.getElem?_cons_succ, List.getElem?_drop]
  have hl := fwT_len (x := x) h (show k < d.length by omega)
  rw [List.getElem?_eq_getElem (by omega), List.getElem?_eq_getElem hk] at e
  exact Option.some.inj e
theorem fwT_set {d : List α} {x : α} {p k : Nat} (h : p ≤ k) (hk : k + 1 < d.length) : ((fwT d x p k).set k d[k + 1]).set (k + 1) x = fwT d x p (k + 1) := by
  have hl := fwT_len (x := x) h (show k < d.length by omega)
  have h1 := sw_eq (l := fwT d x p k) (p := k) (q := k + 1) (by omega) (by omega)
  rw [fwT_at h (by omega), fwT_post h hk] at h1
  rw [h1]
  have e1 : fwT d x p k = (d.take p ++ (d.drop (p + 1)).take (k - p)) ++ x :: d[k + 1] :: d.drop (k + 2) := by
    unfold fwT
    rw [List.drop_eq_getElem_cons hk, List.append_assoc]
  rw [e1, sw_next (by simp only [List.length_append, List.length_take, List.length_drop]; omega)]
  unfold fwT
  rw [show k + 1 - p = (k - p) + 1 by omega, List.take_succ_eq_append_getElem (by rw [List.length_drop]; omega), List.getElem_drop]
  have : d[p + 1 + (k - p)]'(by omega) = d[k + 1] := by congr 1; omega
  rw [this]
  simp only [List.append_assoc, List.cons_append, List.nil_append]
theorem sd_sub (h : SWO lt) {d : List α} {p q : Nat} (hq : q ≤ d.length) (hX : Sd lt ((d.drop p).take (q - p))) {i j : Nat} (hij : i ≤ j) (hi : p ≤ i) (hj : j < q) : lt (d[j]'(by omega)) (d[i]'(by omega)) = false := by
  have hXl : ((d.drop p).take (q - p)).length = q - p := by rw [List.length_take, List.length_drop]; omega
  have := sd_le h hX (i := i - p) (j := j - p) (by omega) (by omega)
  rw [sub_at (by omega), sub_at (by omega)] at this
  have e1 : d[p + (j - p)]'(by omega) = d[j]'(by omega) := by congr 1; omega
  have e2 : d[p + (i - p)]'(by omega) = d[i]'(by omega) := by congr 1; omega
  rwa [e1, e2] at this
end
theorem sym_one_l {lt : Mk → Mk → Bool} (h : SWO lt) {d : List Mk} {p q i : Nat} (hq : q ≤ d.length) (h1 : p + 1 ≤ i) (h2 : i ≤ q) (hY : Sd lt ((d.drop (p + 1)).take (q - (p + 1))))
    (hA : i = p + 1 ∨ lt (gA d (i - 1)) (gA d p) = true) (hB : i = q ∨ lt (gA d i) (gA d p) = false) : fwT d (gA d p) p (i - 1) = symT lt d p (p + 1) q := by
  have hYl : ((d.drop (p + 1)).take (q - (p + 1))).length = q - (p + 1) := by rw [List.length_take, List.length_drop]; omega
  have hx : (d.drop p).take (p + 1 - p) = [gA d p] := by
    rw [show p + 1 - p = 0 + 1 by omega, List.drop_eq_getElem_cons (show p < d.length by omega), List.take_succ_cons, gA_eq (by omega)]; rfl
  have hm := mg_one_l (lt := lt) (x := gA d p) (Y := (d.drop (p + 1)).take (q - (p + 1))) (c := i - (p + 1)) (fun y hy => by
    obtain ⟨k, hk, rfl⟩ := List.mem_iff_getElem.1 hy
    rw [List.length_take, hYl] at hk
    simp only [List.getElem_take, List.getElem_drop]
    rcases hA with rfl | hA
    · omega
    · have := sd_sub h hq hY (i := p + 1 + k) (j := i - 1) (by omega) (by omega) (by omega)
      rw [gA_eq (show i - 1 < d.length by omega)] at this
      exact h.le_lt this hA) (fun y hy => by
    obtain ⟨k, hk, rfl⟩ := List.mem_iff_getElem.1 hy
    rw [List.length_drop, hYl] at hk
    simp only [List.getElem_take, List.getElem_drop]
    rcases hB with rfl | hB
    · omega
    · have := sd_sub h hq hY (i := i) (j := p + 1 + (i - (p + 1) + k)) (by omega) (by omega) (by omega)
      rw [gA_eq (show i < d.length by omega)] at this
      exact h.ntrans _ _ _ hB this)
  unfold symT fwT
  rw [hx, hm, show i - 1 + 1 = i by omega, show i - 1 - p = i - (p + 1) by omega, List.take_take, Nat.min_eq_left (by omega), List.drop_take, List.drop_drop, show p + 1 + (i - (p + 1)) = i by omega, show q - (p + 1) - (i - (p + 1)) = q - i by omega]
  have := List.take_append_drop (q - i) (d.drop i)
  rw [List.drop_drop, show i + (q - i) = q by omega] at this
  conv => lhs; rw [← this]
  simp only [List.append_assoc, List.nil_append, List.cons_append]
theorem sym_one_r {lt : Mk → Mk → Bool} (h : SWO lt) {d : List Mk} {p m i : Nat} (hq : m + 1 ≤ d.length) (h1 : p ≤ i) (h2 : i ≤ m) (hX : Sd lt ((d.drop p).take (m - p)))
    (hA : i = p ∨ lt (gA d m) (gA d (i - 1)) = false) (hB : i = m ∨ lt (gA d m) (gA d i) = true) : insT d (gA d m) m i = symT lt d p m (m + 1) := by
  have hXl : ((d.drop p).take (m - p)).length = m - p := by rw [List.length_take, List.length_drop]; omega
  have hx : (d.drop m).take (m + 1 - m) = [gA d m] := by
    rw [show m + 1 - m = 0 + 1 by omega, List.drop_eq_getElem_cons (show m < d.length by omega), List.take_succ_cons, gA_eq (by omega)]; rfl
  have hm := mg_one_r (lt := lt) (y := gA d m) (X := (d.drop p).take (m - p)) (c := i - p) (fun y hy => by
    obtain ⟨k, hk, rfl⟩ := List.mem_iff_getElem.1 hy
    rw [List.length_take, hXl] at hk
    simp only [List.getElem_take, List.getElem_drop]
    rcases hA with rfl | hA
    · omega
    · have := sd_sub h (show m ≤ d.length by omega) hX (i := p + k) (j := i - 1) (by omega) (by omega) (by omega)
      rw [gA_eq (show i - 1 < d.length by omega)] at this
      exact h.ntrans _ _ _ this hA) (fun y hy => by
    obtain ⟨k, hk, rfl⟩ := List.mem_iff_getElem.1 hy
    rw [List.length_drop, hXl] at hk
    simp only [List.getElem_take, List.getElem_drop]
    rcases hB with rfl | hB
    · omega
    · have := sd_sub h (show m ≤ d.length by omega) hX (i := i) (j := p + (i - p + k)) (by omega) (by omega) (by omega)
      rw [gA_eq (show i < d.length by omega)] at this
      exact h.lt_le hB this)
  unfold symT insT
  rw [hx, hm, List.take_take, Nat.min_eq_left (by omega), List.drop_take, List.drop_drop, show p + (i - p) = i by omega, show m - p - (i - p) = m - i by omega]
  have : d.take i = d.take p ++ (d.drop p).take (i - p) := by rw [show i = p + (i - p) by omega, List.take_add]; congr 2; omega
  rw [this]
  simp only [List.append_assoc, List.nil_append, List.cons_append]
theorem sym_all {lt : Mk → Mk → Bool} (h : SWO lt) {d : List Mk} {p m q s e M : Nat} (h1 : p ≤ s) (h2 : s ≤ m) (h3 : m ≤ e) (h4 : e ≤ q) (h5 : q ≤ d.length) (hM : M = s + (e - m))
    (hX : Sd lt ((d.drop p).take (m - p))) (hY : Sd lt ((d.drop m).take (q - m)))
    (hA : s = p ∨ e = q ∨ lt (gA d e) (gA d (s - 1)) = false) (hB : s = m ∨ e = m ∨ lt (gA d (e - 1)) (gA d s) = true) :
    symT lt (symT lt (rotT d s m e) p s M) M e q = symT lt d p m q := by
  subst hM
  refine sym_cut h h1 h2 h3 h4 h5 hX hY ?_ ?_
  · rcases hA with hA | hA | hA
    · exact .inl hA
    · exact .inr (.inl hA)
    · by_cases c1 : s = p
      · exact .inl c1
      · by_cases c2 : e = q
        · exact .inr (.inl c2)
        · exact .inr (.inr ⟨by omega, by omega, by rw [gA_eq (by omega), gA_eq (by omega)]; exact hA⟩)
  · rcases hB with hB | hB | hB
    · exact .inl hB
    · exact .inr (.inl hB)
    · by_cases c1 : s = m
      · exact .inl c1
      · by_cases c2 : e = m
        · exact .inr (.inl c2)
        · exact .inr (.inr ⟨by omega, by omega, by rw [gA_eq (by omega), gA_eq (by omega)]; exact hB⟩)
attribute [local irreducible] Sl pt ro
set_option maxRecDepth 20000 in
set_option maxHeartbeats 4000000 in
theorem sym_st (F : SP) {a : Option Addr} {c n gf : Nat} {cf : Mk → Mk → Int} (ho : OrdF gf cf) (hw : SWO (ltc cf)) (hn : n ≤ 1125899906842624) {p m q : Nat} {d : List Mk} (hd : d.length = n) (h1 : p < m) (h2 : m < q) (h3 : q ≤ n) (hX : Sd (ltc cf) ((d.drop p).take (m - p))) (hY : Sd (ltc cf) ((d.drop m).take (q - m))) (hIH : ∀ (p1 m1 q1 : Nat) (d1 : List Mk), q1 - p1 < q - p → p1 < m1 → m1 < q1 → q1 ≤ n → d1.length = n → Sd (ltc cf) ((d1.drop p1).take (m1 - p1)) → Sd (ltc cf) ((d1.drop m1).take (q1 - m1)) → Fn Try.prog 74 #[.slice a n c, .int .i64 (p1 : Nat), .int .i64 (m1 : Nat), .int .i64 (q1 : Nat), .func (.func gf) [].toArray [].toArray] (F * Sl 3 (.slice a n c) n (mcs (d1))) (fun r B => r = .tuple #[] ∧ B = F * Sl 3 (.slice a n c) n (mcs (symT (ltc cf) d1 p1 m1 q1)))) :
    Fn Try.prog 74 #[.slice a n c, .int .i64 (p : Nat), .int .i64 (m : Nat), .int .i64 (q : Nat), .func (.func gf) [].toArray [].toArray] (F * Sl 3 (.slice a n c) n (mcs (d))) (fun r B => r = .tuple #[] ∧ B = F * Sl 3 (.slice a n c) n (mcs (symT (ltc cf) d p m q))) := by
  refine fn_enterW (args := [.slice a n c, .int .i64 (p : Nat), .int .i64 (m : Nat), .int .i64 (q : Nat), .func (.func gf) [].toArray [].toArray]) Try.func74 rfl Try.ntmps74 (by simp) ?_; refine tc_have (fun g w h => nn_sl (by decide) g w h (show 0 < n by omega)) fun ⟨bi, oi, ei⟩ => ?_
  subst ei
  refine tc_seq ?_; refine sr ?_; refine tlm ?_; refine tlm ?_; refine tv (by first | exact o_subI rfl rfl (by omega) | exact o_sub rfl rfl) ?_; refine tl_env (d := 27) (v := .int .i64 ((m - p : Nat) : Int)) (by show Value.int .i64 _ = Value.int .i64 _; congr 1; try omega) ?_; refine tv (o_eqi rfl rfl) ?_; refine nq ?_; refine tc_cond rfl (fun h => ?_) (fun h => ?_)
  · obtain rfl : m = p + 1 := by simp at h; omega
    refine sr ?_; refine tlm ?_; refine tla ?_; refine nq ?_; refine sr ?_; refine tlm ?_; refine tla ?_; refine nq ?_; refine tc_seq ?_; refine tc_block ?_; refine tc_loop (fun kk ρ BB => ∃ (i : Nat) (j : Nat), (p + 1 ≤ i) ∧ (i ≤ j) ∧ (j ≤ q) ∧ (i = p + 1 ∨ ltc cf (gA d (i - 1)) (gA d p) = true) ∧ (j = q ∨ ltc cf (gA d j) (gA d p) = false) ∧ kk = j - i ∧ ρ 10 = .int .i64 (i : Nat) ∧ ρ 11 = .int .i64 (j : Nat) ∧ ρ 0 = .slice (some ⟨bi, oi, none⟩) n c ∧ ρ 1 = .int .i64 (p : Nat) ∧ ρ 4 = .func (.func gf) [].toArray [].toArray ∧ BB = F * Sl 3 (.slice (some ⟨bi, oi, none⟩) n c) n (mcs (d))) (m := (q) - (p + 1)) ?_ ?_
    · exact ⟨p + 1, q, by omega, by omega, by omega, .inl rfl, .inl rfl, rfl, rfl, rfl, rfl, rfl, rfl, rfl⟩
    · intro k ρ B hI
      obtain ⟨i, j, hp0, hp1, hp2, hp3, hp4, hkk1, hE10, hE11, hE0, hE1, hE4, rfl⟩ := hI
      refine tc_env (d := 10) hE10 ?_; refine tc_env (d := 11) hE11 ?_; refine tc_env (d := 0) hE0 ?_; refine tc_env (d := 1) hE1 ?_; refine tc_env (d := 4) hE4 ?_
      clear hE10 hE11 hE0 hE1 hE4
      refine tc_seq ?_; refine sr ?_; refine tlm ?_; refine tlm ?_; refine tv (o_lss rfl rfl) ?_; refine nq ?_; refine tc_cond rfl (fun h => ?_) (fun h => ?_)
      · have hij : i < j := by simp at h; omega
        refine tc_skip ?_; refine q_then_n ?_; refine tc_block ?_; refine sr ?_; refine tlm ?_; refine tlm ?_; refine tv (by first | exact o_addI rfl rfl (by omega) | exact o_add rfl rfl) ?_; refine tl_env (d := 36) (v := .int .i64 ((i + j : Nat) : Int)) (rfl) ?_; refine tv (by first | exact o_conv64 Try.underlying3 Try.underlying92 rfl | exact o_conv Try.underlying3 Try.underlying92 rfl) ?_; refine tl_env (d := 37) (v := .int .u64 ((i + j : Nat) : Int)) (congrArg (fun z : Nat => Value.int .u64 (z : Int)) (Nat.mod_eq_of_lt (by omega))) ?_; refine tv (o_shrN (b := 1) rfl rfl rfl (by decide)) ?_; refine tl_env (d := 38) (v := .int .u64 (((i + j) / 2 : Nat) : Int)) (rfl) ?_; refine tv (o_convI Try.underlying92 Try.underlying3 rfl (wrap_i64 (by omega))) ?_; refine tla ?_; refine nq ?_; refine tc_seq ?_; refine tc_regq mo (by kernel_rfl) ?_; refine ql_v rfl (o_move (by conv => lhs; whnf)) ?_; refine ql_v rfl (o_move (by conv => lhs; whnf)) ?_; refine ql_v rfl (o_move (by conv => lhs; whnf)) ?_; refine ql_v rfl (o_ixP (a := some ⟨bi, oi, none⟩) Try.underlying22 sz35 rfl rfl (by omega) nn_some) ?_; refine ql_v rfl (o_ldPN (a := some ⟨bi, oi, none⟩) (vs := (gA d ((i + j) / 2)).cells) a35 sz35 rfl (by repeat (first | with_reducible exact rs_sl | apply Rs.left)) (by rw [mcs_at (by omega), gA_eq (by omega)]) rfl (by decide)) ?_
        refine ql_v rfl (o_move (by conv => lhs; whnf)) ?_; refine ql_v rfl (o_move (by conv => lhs; whnf)) ?_; refine ql_v rfl (o_ixP (a := some ⟨bi, oi, none⟩) Try.underlying22 sz35 rfl rfl (by omega) nn_some) ?_; refine ql_v rfl (o_ldPN (a := some ⟨bi, oi, none⟩) (vs := (gA d (p)).cells) a35 sz35 rfl (by repeat (first | with_reducible exact rs_sl | apply Rs.left)) (by rw [mcs_at (by omega), gA_eq (by omega)]) rfl (by decide)) ?_; refine ql_c rfl (fun w => exec_dyn (ho.body) rfl rfl) (ho.run _ (gA d ((i + j) / 2)) (gA d p)) ?_; refine ql_v rfl (o_lss rfl rfl) ?_; refine ql_nil ?_; refine q_then_n ?_; refine tc_cond rfl (fun h => ?_) (fun h => ?_)
        · have hG : (i + j) / 2 + 1 = p + 1 ∨ ltc cf (gA d ((i + j) / 2 + 1 - 1)) (gA d p) = true := .inr (by rw [Nat.add_sub_cancel]; simpa [ltc] using h)
          refine tc_reg ?_; refine tlm ?_; refine tv (by first | exact o_addI rfl rfl (by omega) | exact o_add rfl rfl) ?_; refine tl_env (d := 52) (v := .int .i64 (((i + j) / 2 + 1 : Nat) : Int)) (rfl) ?_; refine tla ?_; refine tl_nil ?_; refine q_block_n (q_then_n ?_); exact ⟨_, by show _ < _; omega, _, _, by omega, by omega, by omega, by first | assumption | exact hG, by first | assumption | exact hG, rfl, rfl, rfl, rfl, rfl, rfl, rfl⟩
        · have hG : (i + j) / 2 = q ∨ ltc cf (gA d ((i + j) / 2)) (gA d p) = false := .inr (by simpa [ltc] using h)
          refine tc_reg ?_; refine tlm ?_; refine tla ?_; refine tl_nil ?_; refine q_block_n (q_then_n ?_); exact ⟨_, by show _ < _; omega, _, _, by omega, by omega, by omega, by first | assumption | exact hG, by first | assumption | exact hG, rfl, rfl, rfl, rfl, rfl, rfl, rfl⟩
      · obtain rfl : i = j := by simp at h; omega
        refine tc_exit ?_; refine q_then_e (q_then_e (q_block_x (q_then_n ?_))); refine tc_seq ?_; refine sr ?_; refine tlm ?_; refine tla ?_; refine nq ?_; refine tc_block ?_; refine tc_loop (fun kk ρ BB => ∃ (u : Nat), (p ≤ u) ∧ (u + 1 ≤ i) ∧ kk = i - u ∧ ρ 13 = .int .i64 (u : Nat) ∧ ρ 0 = .slice (some ⟨bi, oi, none⟩) n c ∧ ρ 10 = .int .i64 (i : Nat) ∧ BB = F * Sl 3 (.slice (some ⟨bi, oi, none⟩) n c) n (mcs (fwT d (gA d p) p u))) (m := i - (p)) ?_ ?_
        · exact ⟨p, by omega, by omega, rfl, rfl, rfl, rfl, by rw [← gA_eq (show p < d.length by omega), fwT_p (show p < d.length by omega)]⟩
        · intro k ρ B hI
          obtain ⟨u, hu0, hu1, hkk2, hE13, hE0, hE10, rfl⟩ := hI
          refine tc_env (d := 13) hE13 ?_; refine tc_env (d := 0) hE0 ?_; refine tc_env (d := 10) hE10 ?_
          clear hE13 hE0 hE10
          refine tc_seq ?_; refine sr ?_; refine tlm ?_; refine tlm ?_; refine tv (by first | exact o_subI rfl rfl (by omega) | exact o_sub rfl rfl) ?_; refine tl_env (d := 57) (v := .int .i64 ((i - 1 : Nat) : Int)) (by show Value.int .i64 _ = Value.int .i64 _; congr 1; try omega) ?_; refine tv (o_lss rfl rfl) ?_; refine nq ?_; refine tc_cond rfl (fun h => ?_) (fun h => ?_)
          · have hui : u < i - 1 := by simp at h; omega
            have hfl := fwT_len (x := gA d p) hu0 (show u < d.length by omega)
            refine tc_skip ?_; refine q_then_n ?_; refine tc_seq ?_; refine tc_block ?_; refine tc_regh (S := F) mo (by repeat (first | with_reducible exact dr_refl | apply dr_keep | apply dr_drop)) ?_
            show TH _ _ _ _ _ 18 #[ff,ff,ff,ff,ff,ff,ff,ff,ff,ff,ff,ff,ff,ff,ff,ff,ff,ff] _ _
            refine th_take (i := 0) (listed' := #[tt,ff,ff,ff,ff,ff,ff,ff,ff,ff,ff,ff,ff,ff,ff,ff,ff,ff]) rfl (by kernel_rfl) (by kernel_rfl) (by kernel_rfl) rfl rfl (o_move (by conv => lhs; whnf)) ?_; refine th_take (i := 1) (listed' := #[tt,tt,ff,ff,ff,ff,ff,ff,ff,ff,ff,ff,ff,ff,ff,ff,ff,ff]) rfl (by kernel_rfl) (by kernel_rfl) (by kernel_rfl) rfl rfl (o_move (by conv => lhs; whnf)) ?_; refine th_take (i := 2) (listed' := #[tt,tt,tt,ff,ff,ff,ff,ff,ff,ff,ff,ff,ff,ff,ff,ff,ff,ff]) rfl (by kernel_rfl) (by kernel_rfl) (by kernel_rfl) rfl rfl (o_move (by conv => lhs; whnf)) ?_; refine th_take (i := 3) (listed' := #[tt,tt,tt,tt,ff,ff,ff,ff,ff,ff,ff,ff,ff,ff,ff,ff,ff,ff]) rfl (by kernel_rfl) (by kernel_rfl) (by kernel_rfl) rfl rfl (o_move (by conv => lhs; whnf)) ?_; refine th_take (i := 4) (listed' := #[tt,tt,tt,tt,tt,ff,ff,ff,ff,ff,ff,ff,ff,ff,ff,ff,ff,ff]) rfl (by kernel_rfl) (by kernel_rfl) (by kernel_rfl) rfl rfl (by first | exact o_addI rfl rfl (by omega) | exact o_add rfl rfl) ?_; refine th_env (d := 65) (v := .int .i64 ((u + 1 : Nat) : Int)) (rfl) ?_; refine th_take (i := 5) (listed' := #[tt,tt,tt,tt,tt,tt,ff,ff,ff,ff,ff,ff,ff,ff,ff,ff,ff,ff]) rfl (by kernel_rfl) (by kernel_rfl) (by kernel_rfl) rfl rfl (o_move (by conv => lhs; whnf)) ?_; refine th_take (i := 6) (listed' := #[tt,tt,tt,tt,tt,tt,tt,ff,ff,ff,ff,ff,ff,ff,ff,ff,ff,ff]) rfl (by kernel_rfl) (by kernel_rfl) (by kernel_rfl) rfl rfl (o_move (by conv => lhs; whnf)) ?_
            refine th_take (i := 7) (listed' := #[tt,tt,tt,tt,tt,tt,tt,tt,ff,ff,ff,ff,ff,ff,ff,ff,ff,ff]) rfl (by kernel_rfl) (by kernel_rfl) (by kernel_rfl) rfl rfl (by first | exact o_addI rfl rfl (by omega) | exact o_add rfl rfl) ?_; refine th_env (d := 68) (v := .int .i64 ((u + 1 : Nat) : Int)) (rfl) ?_; refine th_take (i := 8) (listed' := #[tt,tt,tt,tt,tt,tt,tt,tt,tt,ff,ff,ff,ff,ff,ff,ff,ff,ff]) rfl (by kernel_rfl) (by kernel_rfl) (by kernel_rfl) rfl rfl (o_ixP (a := some ⟨bi, oi, none⟩) Try.underlying22 sz35 rfl rfl (by omega) nn_some) ?_; refine th_take (i := 10) (listed' := #[tt,tt,tt,tt,tt,tt,tt,tt,tt,ff,tt,ff,ff,ff,ff,ff,ff,ff]) rfl (by kernel_rfl) (by kernel_rfl) (by kernel_rfl) rfl rfl (o_move (by conv => lhs; whnf)) ?_; refine th_take (i := 11) (listed' := #[tt,tt,tt,tt,tt,tt,tt,tt,tt,ff,tt,tt,ff,ff,ff,ff,ff,ff]) rfl (by kernel_rfl) (by kernel_rfl) (by kernel_rfl) rfl rfl (o_move (by conv => lhs; whnf)) ?_; refine th_take (i := 12) (listed' := #[tt,tt,tt,tt,tt,tt,tt,tt,tt,ff,tt,tt,tt,ff,ff,ff,ff,ff]) rfl (by kernel_rfl) (by kernel_rfl) (by kernel_rfl) rfl rfl (o_ixP (a := some ⟨bi, oi, none⟩) Try.underlying22 sz35 rfl rfl (by omega) nn_some) ?_; refine th_two (i := 9) (j := 13) (by kernel_rfl) ?_ ?_
            · skip
              refine oh_v (i := 9) (listed' := #[tt,tt,tt,tt,tt,tt,tt,tt,tt,tt,tt,tt,tt,ff,ff,ff,ff,ff]) rfl rfl rfl (o_ldPN (a := some ⟨bi, oi, none⟩) (vs := (gA d (u + 1)).cells) a35 sz35 rfl (by repeat (first | with_reducible exact rs_sl | apply Rs.left)) (by rw [mcs_at (by omega), fwT_post hu0 (by omega), gA_eq (by omega)]) rfl (by decide)) ?_; refine th_one (i := 13) (by kernel_rfl) ?_; refine oh_v (i := 13) (listed' := #[tt,tt,tt,tt,tt,tt,tt,tt,tt,tt,tt,tt,tt,tt,ff,ff,ff,ff]) rfl rfl rfl (o_ldPN (a := some ⟨bi, oi, none⟩) (vs := (gA d p).cells) a35 sz35 rfl (by repeat (first | with_reducible exact rs_sl | apply Rs.left)) (by rw [mcs_at (by omega), fwT_at hu0 (by omega)]) rfl (by decide)) ?_; refine th_take (i := 14) (listed' := #[tt,tt,tt,tt,tt,tt,tt,tt,tt,tt,tt,tt,tt,tt,tt,ff,ff,ff]) rfl (by kernel_rfl) (by kernel_rfl) (by kernel_rfl) rfl rfl (o_ixP (a := some ⟨bi, oi, none⟩) Try.underlying22 sz35 rfl rfl (by omega) nn_some) ?_; refine th_one (i := 15) (by kernel_rfl) ?_; refine oh_u (i := 15) (listed' := #[tt,tt,tt,tt,tt,tt,tt,tt,tt,tt,tt,tt,tt,tt,tt,tt,ff,ff]) rfl rfl rfl (o_stPN (a := some ⟨bi, oi, none⟩) (vs := (gA d (u + 1)).cells) (ys := mcs ((fwT d (gA d p) p u).set (u) (gA d (u + 1)))) sz35 rfl rfl rfl rfl (by decide) (by repeat (first | with_reducible exact ct_here | apply ct_left)) (by omega) (mcs_spl (by omega))) (by repeat (first | with_reducible exact dr_refl | apply dr_keep | apply dr_drop)) ?_; refine th_take (i := 16) (listed' := #[tt,tt,tt,tt,tt,tt,tt,tt,tt,tt,tt,tt,tt,tt,tt,tt,tt,ff]) rfl (by kernel_rfl) (by kernel_rfl) (by kernel_rfl) rfl rfl (o_ixP (a := some ⟨bi, oi, none⟩) Try.underlying22 sz35 rfl rfl (by omega) nn_some) ?_
              refine th_one (i := 17) (by kernel_rfl) ?_; refine oh_u (i := 17) (listed' := #[tt,tt,tt,tt,tt,tt,tt,tt,tt,tt,tt,tt,tt,tt,tt,tt,tt,tt]) rfl rfl rfl (o_stPN (a := some ⟨bi, oi, none⟩) (vs := (gA d p).cells) (ys := mcs (((fwT d (gA d p) p u).set (u) (gA d (u + 1))).set (u + 1) (gA d p))) sz35 rfl rfl rfl rfl (by decide) (by repeat (first | with_reducible exact ct_here | apply ct_left)) (by omega) (mcs_spl (by rw [List.length_set]; omega))) (by repeat (first | with_reducible exact dr_refl | apply dr_keep | apply dr_drop)) ?_; refine th_done (by kernel_rfl) ?_; refine q_block_n (q_then_n ?_); refine tc_reg ?_; refine tlm ?_; refine tv (by first | exact o_addI rfl rfl (by omega) | exact o_add rfl rfl) ?_; refine tla ?_; refine nq ?_; exact ⟨_, by omega, u + 1, by omega, by omega, rfl, rfl, rfl, rfl, by rw [← gA_eq (show u + 1 < d.length by omega), fwT_set hu0 (by omega)]⟩
            · skip
              refine oh_v (i := 13) (listed' := #[tt,tt,tt,tt,tt,tt,tt,tt,tt,ff,tt,tt,tt,tt,ff,ff,ff,ff]) rfl rfl rfl (o_ldPN (a := some ⟨bi, oi, none⟩) (vs := (gA d p).cells) a35 sz35 rfl (by repeat (first | with_reducible exact rs_sl | apply Rs.left)) (by rw [mcs_at (by omega), fwT_at hu0 (by omega)]) rfl (by decide)) ?_; refine th_one (i := 9) (by kernel_rfl) ?_; refine oh_v (i := 9) (listed' := #[tt,tt,tt,tt,tt,tt,tt,tt,tt,tt,tt,tt,tt,tt,ff,ff,ff,ff]) rfl rfl rfl (o_ldPN (a := some ⟨bi, oi, none⟩) (vs := (gA d (u + 1)).cells) a35 sz35 rfl (by repeat (first | with_reducible exact rs_sl | apply Rs.left)) (by rw [mcs_at (by omega), fwT_post hu0 (by omega), gA_eq (by omega)]) rfl (by decide)) ?_; refine th_take (i := 14) (listed' := #[tt,tt,tt,tt,tt,tt,tt,tt,tt,tt,tt,tt,tt,tt,tt,ff,ff,ff]) rfl (by kernel_rfl) (by kernel_rfl) (by kernel_rfl) rfl rfl (o_ixP (a := some ⟨bi, oi, none⟩) Try.underlying22 sz35 rfl rfl (by omega) nn_some) ?_; refine th_one (i := 15) (by kernel_rfl) ?_; refine oh_u (i := 15) (listed' := #[tt,tt,tt,tt,tt,tt,tt,tt,tt,tt,tt,tt,tt,tt,tt,tt,ff,ff]) rfl rfl rfl (o_stPN (a := some ⟨bi, oi, none⟩) (vs := (gA d (u + 1)).cells) (ys := mcs ((fwT d (gA d p) p u).set (u) (gA d (u + 1)))) sz35 rfl rfl rfl rfl (by decide) (by repeat (first | with_reducible exact ct_here | apply ct_left)) (by omega) (mcs_spl (by omega))) (by repeat (first | with_reducible exact dr_refl | apply dr_keep | apply dr_drop)) ?_; refine th_take (i := 16) (listed' := #[tt,tt,tt,tt,tt,tt,tt,tt,tt,tt,tt,tt,tt,tt,tt,tt,tt,ff]) rfl (by kernel_rfl) (by kernel_rfl) (by kernel_rfl) rfl rfl (o_ixP (a := some ⟨bi, oi, none⟩) Try.underlying22 sz35 rfl rfl (by omega) nn_some) ?_
              refine th_one (i := 17) (by kernel_rfl) ?_; refine oh_u (i := 17) (listed' := #[tt,tt,tt,tt,tt,tt,tt,tt,tt,tt,tt,tt,tt,tt,tt,tt,tt,tt]) rfl rfl rfl (o_stPN (a := some ⟨bi, oi, none⟩) (vs := (gA d p).cells) (ys := mcs (((fwT d (gA d p) p u).set (u) (gA d (u + 1))).set (u + 1) (gA d p))) sz35 rfl rfl rfl rfl (by decide) (by repeat (first | with_reducible exact ct_here | apply ct_left)) (by omega) (mcs_spl (by rw [List.length_set]; omega))) (by repeat (first | with_reducible exact dr_refl | apply dr_keep | apply dr_drop)) ?_; refine th_done (by kernel_rfl) ?_; refine q_block_n (q_then_n ?_); refine tc_reg ?_; refine tlm ?_; refine tv (by first | exact o_addI rfl rfl (by omega) | exact o_add rfl rfl) ?_; refine tla ?_; refine nq ?_; exact ⟨_, by omega, u + 1, by omega, by omega, rfl, rfl, rfl, rfl, by rw [← gA_eq (show u + 1 < d.length by omega), fwT_set hu0 (by omega)]⟩
          · try simp only [lv1, lv2, lv3, lv4, lv5, lv6, Bool.not_true, Bool.not_false] at h
            refine tc_exit ?_; refine q_then_e (q_then_e (q_block_x (q_then_n ?_))); refine tc_ret ?_; refine q_then_r ?_
            obtain rfl : u = i - 1 := by simp at h; omega
            rw [sym_one_l hw (by omega) (by omega) (by omega) hY hp3 hp4]
            exact ⟨.tuple #[], F * Sl 3 (.slice (some ⟨bi, oi, none⟩) n c) n (mcs (symT (ltc cf) d p (p + 1) q)), res0 rfl, Dr.sat (by repeat (first | with_reducible exact dr_refl | apply dr_keep | apply dr_drop)), rfl, rfl⟩
  · have hmp : m ≠ p + 1 := by simp at h; omega
    refine tc_skip ?_; refine q_then_n ?_; refine tc_seq ?_; refine sr ?_; refine tlm ?_; refine tlm ?_; refine tv (by first | exact o_subI rfl rfl (by omega) | exact o_sub rfl rfl) ?_; refine tl_env (d := 79) (v := .int .i64 ((q - m : Nat) : Int)) (by show Value.int .i64 _ = Value.int .i64 _; congr 1; try omega) ?_; refine tv (o_eqi rfl rfl) ?_; refine nq ?_; refine tc_cond rfl (fun h => ?_) (fun h => ?_)
    · obtain rfl : q = m + 1 := by simp at h; omega
      refine sr ?_; refine tlm ?_; refine tla ?_; refine nq ?_; refine sr ?_; refine tlm ?_; refine tla ?_; refine nq ?_; refine tc_seq ?_; refine tc_block ?_; refine tc_loop (fun kk ρ BB => ∃ (i : Nat) (j : Nat), (p ≤ i) ∧ (i ≤ j) ∧ (j ≤ m) ∧ (i = p ∨ ltc cf (gA d m) (gA d (i - 1)) = false) ∧ (j = m ∨ ltc cf (gA d m) (gA d j) = true) ∧ kk = j - i ∧ ρ 14 = .int .i64 (i : Nat) ∧ ρ 15 = .int .i64 (j : Nat) ∧ ρ 0 = .slice (some ⟨bi, oi, none⟩) n c ∧ ρ 2 = .int .i64 (m : Nat) ∧ ρ 4 = .func (.func gf) [].toArray [].toArray ∧ BB = F * Sl 3 (.slice (some ⟨bi, oi, none⟩) n c) n (mcs (d))) (m := (m) - (p)) ?_ ?_
      · exact ⟨p, m, by omega, by omega, by omega, .inl rfl, .inl rfl, rfl, rfl, rfl, rfl, rfl, rfl, rfl⟩
      · intro k ρ B hI
        obtain ⟨i, j, hp0, hp1, hp2, hp3, hp4, hkk3, hE14, hE15, hE0, hE2, hE4, rfl⟩ := hI
        refine tc_env (d := 14) hE14 ?_; refine tc_env (d := 15) hE15 ?_; refine tc_env (d := 0) hE0 ?_; refine tc_env (d := 2) hE2 ?_; refine tc_env (d := 4) hE4 ?_
        clear hE14 hE15 hE0 hE2 hE4
        refine tc_seq ?_; refine sr ?_; refine tlm ?_; refine tlm ?_; refine tv (o_lss rfl rfl) ?_; refine nq ?_; refine tc_cond rfl (fun h => ?_) (fun h => ?_)
        · have hij : i < j := by simp at h; omega
          refine tc_skip ?_; refine q_then_n ?_; refine tc_block ?_; refine sr ?_; refine tlm ?_; refine tlm ?_; refine tv (by first | exact o_addI rfl rfl (by omega) | exact o_add rfl rfl) ?_; refine tl_env (d := 88) (v := .int .i64 ((i + j : Nat) : Int)) (rfl) ?_; refine tv (by first | exact o_conv64 Try.underlying3 Try.underlying92 rfl | exact o_conv Try.underlying3 Try.underlying92 rfl) ?_; refine tl_env (d := 89) (v := .int .u64 ((i + j : Nat) : Int)) (congrArg (fun z : Nat => Value.int .u64 (z : Int)) (Nat.mod_eq_of_lt (by omega))) ?_; refine tv (o_shrN (b := 1) rfl rfl rfl (by decide)) ?_; refine tl_env (d := 90) (v := .int .u64 (((i + j) / 2 : Nat) : Int)) (rfl) ?_; refine tv (o_convI Try.underlying92 Try.underlying3 rfl (wrap_i64 (by omega))) ?_; refine tla ?_; refine nq ?_; refine tc_seq ?_; refine tc_regq mo (by kernel_rfl) ?_; refine ql_v rfl (o_move (by conv => lhs; whnf)) ?_; refine ql_v rfl (o_move (by conv => lhs; whnf)) ?_; refine ql_v rfl (o_move (by conv => lhs; whnf)) ?_; refine ql_v rfl (o_ixP (a := some ⟨bi, oi, none⟩) Try.underlying22 sz35 rfl rfl (by omega) nn_some) ?_; refine ql_v rfl (o_ldPN (a := some ⟨bi, oi, none⟩) (vs := (gA d (m)).cells) a35 sz35 rfl (by repeat (first | with_reducible exact rs_sl | apply Rs.left)) (by rw [mcs_at (by omega), gA_eq (by omega)]) rfl (by decide)) ?_
          refine ql_v rfl (o_move (by conv => lhs; whnf)) ?_; refine ql_v rfl (o_move (by conv => lhs; whnf)) ?_; refine ql_v rfl (o_ixP (a := some ⟨bi, oi, none⟩) Try.underlying22 sz35 rfl rfl (by omega) nn_some) ?_; refine ql_v rfl (o_ldPN (a := some ⟨bi, oi, none⟩) (vs := (gA d ((i + j) / 2)).cells) a35 sz35 rfl (by repeat (first | with_reducible exact rs_sl | apply Rs.left)) (by rw [mcs_at (by omega), gA_eq (by omega)]) rfl (by decide)) ?_; refine ql_c rfl (fun w => exec_dyn (ho.body) rfl rfl) (ho.run _ (gA d m) (gA d ((i + j) / 2))) ?_; refine ql_v rfl (o_lss rfl rfl) ?_; refine ql_v rfl (o_not rfl) ?_; refine ql_nil ?_; refine q_then_n ?_; refine tc_cond rfl (fun h => ?_) (fun h => ?_)
          · have hG : (i + j) / 2 + 1 = p ∨ ltc cf (gA d m) (gA d ((i + j) / 2 + 1 - 1)) = false := .inr (by rw [Nat.add_sub_cancel]; simpa [ltc] using h)
            refine tc_reg ?_; refine tlm ?_; refine tv (by first | exact o_addI rfl rfl (by omega) | exact o_add rfl rfl) ?_; refine tl_env (d := 105) (v := .int .i64 (((i + j) / 2 + 1 : Nat) : Int)) (rfl) ?_; refine tla ?_; refine tl_nil ?_; refine q_block_n (q_then_n ?_); exact ⟨_, by show _ < _; omega, _, _, by omega, by omega, by omega, by first | assumption | exact hG, by first | assumption | exact hG, rfl, rfl, rfl, rfl, rfl, rfl, rfl⟩
          · have hG : (i + j) / 2 = m ∨ ltc cf (gA d m) (gA d ((i + j) / 2)) = true := .inr (by simpa [ltc] using h)
            refine tc_reg ?_; refine tlm ?_; refine tla ?_; refine tl_nil ?_; refine q_block_n (q_then_n ?_); exact ⟨_, by show _ < _; omega, _, _, by omega, by omega, by omega, by first | assumption | exact hG, by first | assumption | exact hG, rfl, rfl, rfl, rfl, rfl, rfl, rfl⟩
        · obtain rfl : i = j := by simp at h; omega
          refine tc_exit ?_; refine q_then_e (q_then_e (q_block_x (q_then_n ?_))); refine tc_seq ?_; refine sr ?_; refine tlm ?_; refine tla ?_; refine nq ?_; refine tc_block ?_; refine tc_loop (fun kk ρ BB => ∃ (u : Nat), (i ≤ u) ∧ (u ≤ m) ∧ kk = u ∧ ρ 17 = .int .i64 (u : Nat) ∧ ρ 0 = .slice (some ⟨bi, oi, none⟩) n c ∧ ρ 14 = .int .i64 (i : Nat) ∧ BB = F * Sl 3 (.slice (some ⟨bi, oi, none⟩) n c) n (mcs (insT d (gA d m) m u))) (m := (m)) ?_ ?_
          · exact ⟨m, by omega, by omega, rfl, rfl, rfl, rfl, by rw [← gA_eq (show m < d.length by omega), insT_i (show m < d.length by omega)]⟩
          · intro k ρ B hI
            obtain ⟨u, hu0, hu1, hkk4, hE17, hE0, hE14, rfl⟩ := hI
            refine tc_env (d := 17) hE17 ?_; refine tc_env (d := 0) hE0 ?_; refine tc_env (d := 14) hE14 ?_
            clear hE17 hE0 hE14
            refine tc_seq ?_; refine sr ?_; refine tlm ?_; refine tlm ?_; refine tv (o_gtr rfl rfl) ?_; refine nq ?_; refine tc_cond rfl (fun h => ?_) (fun h => ?_)
            · obtain ⟨w_, rfl⟩ : ∃ w, u = w + 1 := ⟨u - 1, by simp at h; omega⟩
              have hui : i < w_ + 1 := by simp at h; omega
              have hfl := insT_len (x := gA d m) (show m < d.length by omega) hu1
              refine tc_skip ?_; refine q_then_n ?_; refine tc_seq ?_; refine tc_block ?_; refine tc_regh (S := F) mo (by repeat (first | with_reducible exact dr_refl | apply dr_keep | apply dr_drop)) ?_
              show TH _ _ _ _ _ 18 #[ff,ff,ff,ff,ff,ff,ff,ff,ff,ff,ff,ff,ff,ff,ff,ff,ff,ff] _ _
              refine th_take (i := 0) (listed' := #[tt,ff,ff,ff,ff,ff,ff,ff,ff,ff,ff,ff,ff,ff,ff,ff,ff,ff]) rfl (by kernel_rfl) (by kernel_rfl) (by kernel_rfl) rfl rfl (o_move (by conv => lhs; whnf)) ?_; refine th_take (i := 1) (listed' := #[tt,tt,ff,ff,ff,ff,ff,ff,ff,ff,ff,ff,ff,ff,ff,ff,ff,ff]) rfl (by kernel_rfl) (by kernel_rfl) (by kernel_rfl) rfl rfl (o_move (by conv => lhs; whnf)) ?_; refine th_take (i := 2) (listed' := #[tt,tt,tt,ff,ff,ff,ff,ff,ff,ff,ff,ff,ff,ff,ff,ff,ff,ff]) rfl (by kernel_rfl) (by kernel_rfl) (by kernel_rfl) rfl rfl (o_move (by conv => lhs; whnf)) ?_; refine th_take (i := 3) (listed' := #[tt,tt,tt,tt,ff,ff,ff,ff,ff,ff,ff,ff,ff,ff,ff,ff,ff,ff]) rfl (by kernel_rfl) (by kernel_rfl) (by kernel_rfl) rfl rfl (o_move (by conv => lhs; whnf)) ?_; refine th_take (i := 4) (listed' := #[tt,tt,tt,tt,tt,ff,ff,ff,ff,ff,ff,ff,ff,ff,ff,ff,ff,ff]) rfl (by kernel_rfl) (by kernel_rfl) (by kernel_rfl) rfl rfl (by first | exact o_subI rfl rfl (by omega) | exact o_sub rfl rfl) ?_; refine th_env (d := 117) (v := .int .i64 ((w_ : Nat) : Int)) (by show Value.int .i64 _ = Value.int .i64 _; congr 1; try omega) ?_; refine th_take (i := 5) (listed' := #[tt,tt,tt,tt,tt,tt,ff,ff,ff,ff,ff,ff,ff,ff,ff,ff,ff,ff]) rfl (by kernel_rfl) (by kernel_rfl) (by kernel_rfl) rfl rfl (o_move (by conv => lhs; whnf)) ?_; refine th_take (i := 6) (listed' := #[tt,tt,tt,tt,tt,tt,tt,ff,ff,ff,ff,ff,ff,ff,ff,ff,ff,ff]) rfl (by kernel_rfl) (by kernel_rfl) (by kernel_rfl) rfl rfl (o_move (by conv => lhs; whnf)) ?_
              refine th_take (i := 7) (listed' := #[tt,tt,tt,tt,tt,tt,tt,tt,ff,ff,ff,ff,ff,ff,ff,ff,ff,ff]) rfl (by kernel_rfl) (by kernel_rfl) (by kernel_rfl) rfl rfl (by first | exact o_subI rfl rfl (by omega) | exact o_sub rfl rfl) ?_; refine th_env (d := 120) (v := .int .i64 ((w_ : Nat) : Int)) (by show Value.int .i64 _ = Value.int .i64 _; congr 1; try omega) ?_; refine th_take (i := 8) (listed' := #[tt,tt,tt,tt,tt,tt,tt,tt,tt,ff,ff,ff,ff,ff,ff,ff,ff,ff]) rfl (by kernel_rfl) (by kernel_rfl) (by kernel_rfl) rfl rfl (o_ixP (a := some ⟨bi, oi, none⟩) Try.underlying22 sz35 rfl rfl (by omega) nn_some) ?_; refine th_take (i := 10) (listed' := #[tt,tt,tt,tt,tt,tt,tt,tt,tt,ff,tt,ff,ff,ff,ff,ff,ff,ff]) rfl (by kernel_rfl) (by kernel_rfl) (by kernel_rfl) rfl rfl (o_move (by conv => lhs; whnf)) ?_; refine th_take (i := 11) (listed' := #[tt,tt,tt,tt,tt,tt,tt,tt,tt,ff,tt,tt,ff,ff,ff,ff,ff,ff]) rfl (by kernel_rfl) (by kernel_rfl) (by kernel_rfl) rfl rfl (o_move (by conv => lhs; whnf)) ?_; refine th_take (i := 12) (listed' := #[tt,tt,tt,tt,tt,tt,tt,tt,tt,ff,tt,tt,tt,ff,ff,ff,ff,ff]) rfl (by kernel_rfl) (by kernel_rfl) (by kernel_rfl) rfl rfl (o_ixP (a := some ⟨bi, oi, none⟩) Try.underlying22 sz35 rfl rfl (by omega) nn_some) ?_; refine th_two (i := 9) (j := 13) (by kernel_rfl) ?_ ?_
              · skip
                refine oh_v (i := 9) (listed' := #[tt,tt,tt,tt,tt,tt,tt,tt,tt,tt,tt,tt,tt,ff,ff,ff,ff,ff]) rfl rfl rfl (o_ldPN (a := some ⟨bi, oi, none⟩) (vs := (gA d w_).cells) a35 sz35 rfl (by repeat (first | with_reducible exact rs_sl | apply Rs.left)) (by rw [mcs_at (by omega), insT_pre (show m < d.length by omega) hu1, gA_eq (by omega)]) rfl (by decide)) ?_; refine th_one (i := 13) (by kernel_rfl) ?_; refine oh_v (i := 13) (listed' := #[tt,tt,tt,tt,tt,tt,tt,tt,tt,tt,tt,tt,tt,tt,ff,ff,ff,ff]) rfl rfl rfl (o_ldPN (a := some ⟨bi, oi, none⟩) (vs := (gA d m).cells) a35 sz35 rfl (by repeat (first | with_reducible exact rs_sl | apply Rs.left)) (by rw [mcs_at (by omega), insT_at (show m < d.length by omega) hu1]) rfl (by decide)) ?_; refine th_take (i := 14) (listed' := #[tt,tt,tt,tt,tt,tt,tt,tt,tt,tt,tt,tt,tt,tt,tt,ff,ff,ff]) rfl (by kernel_rfl) (by kernel_rfl) (by kernel_rfl) rfl rfl (o_ixP (a := some ⟨bi, oi, none⟩) Try.underlying22 sz35 rfl rfl (by omega) nn_some) ?_; refine th_one (i := 15) (by kernel_rfl) ?_; refine oh_u (i := 15) (listed' := #[tt,tt,tt,tt,tt,tt,tt,tt,tt,tt,tt,tt,tt,tt,tt,tt,ff,ff]) rfl rfl rfl (o_stPN (a := some ⟨bi, oi, none⟩) (vs := (gA d w_).cells) (ys := mcs ((insT d (gA d m) m (w_ + 1)).set (w_ + 1) (gA d w_))) sz35 rfl rfl rfl rfl (by decide) (by repeat (first | with_reducible exact ct_here | apply ct_left)) (by omega) (mcs_spl (by omega))) (by repeat (first | with_reducible exact dr_refl | apply dr_keep | apply dr_drop)) ?_
                refine th_take (i := 16) (listed' := #[tt,tt,tt,tt,tt,tt,tt,tt,tt,tt,tt,tt,tt,tt,tt,tt,tt,ff]) rfl (by kernel_rfl) (by kernel_rfl) (by kernel_rfl) rfl rfl (o_ixP (a := some ⟨bi, oi, none⟩) Try.underlying22 sz35 rfl rfl (by omega) nn_some) ?_; refine th_one (i := 17) (by kernel_rfl) ?_; refine oh_u (i := 17) (listed' := #[tt,tt,tt,tt,tt,tt,tt,tt,tt,tt,tt,tt,tt,tt,tt,tt,tt,tt]) rfl rfl rfl (o_stPN (a := some ⟨bi, oi, none⟩) (vs := (gA d m).cells) (ys := mcs (((insT d (gA d m) m (w_ + 1)).set (w_ + 1) (gA d w_)).set (w_) (gA d m))) sz35 rfl rfl rfl rfl (by decide) (by repeat (first | with_reducible exact ct_here | apply ct_left)) (by omega) (mcs_spl (by rw [List.length_set]; omega))) (by repeat (first | with_reducible exact dr_refl | apply dr_keep | apply dr_drop)) ?_; refine th_done (by kernel_rfl) ?_; refine q_block_n (q_then_n ?_); refine tc_reg ?_; refine tlm ?_; refine tv (by first | exact o_subI rfl rfl (by omega) | exact o_sub rfl rfl) ?_; refine tl_env (d := 112) (v := .int .i64 ((w_ : Nat) : Int)) (by show Value.int .i64 _ = Value.int .i64 _; congr 1; try omega) ?_; refine tla ?_; refine nq ?_; exact ⟨_, by omega, w_, by omega, by omega, rfl, rfl, rfl, rfl, by rw [← gA_eq (show w_ < d.length by omega), insT_set (show m < d.length by omega) (by omega)]⟩
              · skip
                refine oh_v (i := 13) (listed' := #[tt,tt,tt,tt,tt,tt,tt,tt,tt,ff,tt,tt,tt,tt,ff,ff,ff,ff]) rfl rfl rfl (o_ldPN (a := some ⟨bi, oi, none⟩) (vs := (gA d m).cells) a35 sz35 rfl (by repeat (first | with_reducible exact rs_sl | apply Rs.left)) (by rw [mcs_at (by omega), insT_at (show m < d.length by omega) hu1]) rfl (by decide)) ?_; refine th_one (i := 9) (by kernel_rfl) ?_; refine oh_v (i := 9) (listed' := #[tt,tt,tt,tt,tt,tt,tt,tt,tt,tt,tt,tt,tt,tt,ff,ff,ff,ff]) rfl rfl rfl (o_ldPN (a := some ⟨bi, oi, none⟩) (vs := (gA d w_).cells) a35 sz35 rfl (by repeat (first | with_reducible exact rs_sl | apply Rs.left)) (by rw [mcs_at (by omega), insT_pre (show m < d.length by omega) hu1, gA_eq (by omega)]) rfl (by decide)) ?_; refine th_take (i := 14) (listed' := #[tt,tt,tt,tt,tt,tt,tt,tt,tt,tt,tt,tt,tt,tt,tt,ff,ff,ff]) rfl (by kernel_rfl) (by kernel_rfl) (by kernel_rfl) rfl rfl (o_ixP (a := some ⟨bi, oi, none⟩) Try.underlying22 sz35 rfl rfl (by omega) nn_some) ?_; refine th_one (i := 15) (by kernel_rfl) ?_; refine oh_u (i := 15) (listed' := #[tt,tt,tt,tt,tt,tt,tt,tt,tt,tt,tt,tt,tt,tt,tt,tt,ff,ff]) rfl rfl rfl (o_stPN (a := some ⟨bi, oi, none⟩) (vs := (gA d w_).cells) (ys := mcs ((insT d (gA d m) m (w_ + 1)).set (w_ + 1) (gA d w_))) sz35 rfl rfl rfl rfl (by decide) (by repeat (first | with_reducible exact ct_here | apply ct_left)) (by omega) (mcs_spl (by omega))) (by repeat (first | with_reducible exact dr_refl | apply dr_keep | apply dr_drop)) ?_
                refine th_take (i := 16) (listed' := #[tt,tt,tt,tt,tt,tt,tt,tt,tt,tt,tt,tt,tt,tt,tt,tt,tt,ff]) rfl (by kernel_rfl) (by kernel_rfl) (by kernel_rfl) rfl rfl (o_ixP (a := some ⟨bi, oi, none⟩) Try.underlying22 sz35 rfl rfl (by omega) nn_some) ?_; refine th_one (i := 17) (by kernel_rfl) ?_; refine oh_u (i := 17) (listed' := #[tt,tt,tt,tt,tt,tt,tt,tt,tt,tt,tt,tt,tt,tt,tt,tt,tt,tt]) rfl rfl rfl (o_stPN (a := some ⟨bi, oi, none⟩) (vs := (gA d m).cells) (ys := mcs (((insT d (gA d m) m (w_ + 1)).set (w_ + 1) (gA d w_)).set (w_) (gA d m))) sz35 rfl rfl rfl rfl (by decide) (by repeat (first | with_reducible exact ct_here | apply ct_left)) (by omega) (mcs_spl (by rw [List.length_set]; omega))) (by repeat (first | with_reducible exact dr_refl | apply dr_keep | apply dr_drop)) ?_; refine th_done (by kernel_rfl) ?_; refine q_block_n (q_then_n ?_); refine tc_reg ?_; refine tlm ?_; refine tv (by first | exact o_subI rfl rfl (by omega) | exact o_sub rfl rfl) ?_; refine tl_env (d := 112) (v := .int .i64 ((w_ : Nat) : Int)) (by show Value.int .i64 _ = Value.int .i64 _; congr 1; try omega) ?_; refine tla ?_; refine nq ?_; exact ⟨_, by omega, w_, by omega, by omega, rfl, rfl, rfl, rfl, by rw [← gA_eq (show w_ < d.length by omega), insT_set (show m < d.length by omega) (by omega)]⟩
            · try simp only [lv1, lv2, lv3, lv4, lv5, lv6, Bool.not_true, Bool.not_false] at h
              refine tc_exit ?_; refine q_then_e (q_then_e (q_block_x (q_then_n ?_))); refine tc_ret ?_; refine q_then_r ?_
              obtain rfl : u = i := by simp at h; omega
              rw [sym_one_r hw (by omega) (by omega) (by omega) hX hp3 hp4]
              exact ⟨.tuple #[], F * Sl 3 (.slice (some ⟨bi, oi, none⟩) n c) n (mcs (symT (ltc cf) d p m (m + 1))), res0 rfl, Dr.sat (by repeat (first | with_reducible exact dr_refl | apply dr_keep | apply dr_drop)), rfl, rfl⟩
    · have hqm : q ≠ m + 1 := by simp at h; omega
      refine tc_skip ?_; refine q_then_n ?_; refine sr ?_; refine tlm ?_; refine tlm ?_; refine tv (by first | exact o_addI rfl rfl (by omega) | exact o_add rfl rfl) ?_; refine tl_env (d := 131) (v := .int .i64 ((p + q : Nat) : Int)) (rfl) ?_; refine tv (by first | exact o_conv64 Try.underlying3 Try.underlying92 rfl | exact o_conv Try.underlying3 Try.underlying92 rfl) ?_; refine tl_env (d := 132) (v := .int .u64 ((p + q : Nat) : Int)) (congrArg (fun z : Nat => Value.int .u64 (z : Int)) (Nat.mod_eq_of_lt (by omega))) ?_; refine tv (o_shrN (b := 1) rfl rfl rfl (by decide)) ?_; refine tl_env (d := 133) (v := .int .u64 (((p + q) / 2 : Nat) : Int)) (rfl) ?_; refine tv (o_convI Try.underlying92 Try.underlying3 rfl (wrap_i64 (by omega))) ?_; refine tla ?_; refine nq ?_; refine sr ?_; refine tlm ?_; refine tlm ?_; refine tv (by first | exact o_addI rfl rfl (by omega) | exact o_add rfl rfl) ?_; refine tl_env (d := 137) (v := .int .i64 (((p + q) / 2 + m : Nat) : Int)) (rfl) ?_; refine tla ?_; refine nq ?_; refine sr ?_; refine tla ?_; refine tla ?_; refine nq ?_; refine tc_seq ?_; refine sr ?_; refine tlm ?_; refine tlm ?_; refine tv (o_gtr rfl rfl) ?_
      refine nq ?_; refine tc_cut (fun ρ BB => ∃ (s0 : Nat) (r0 : Nat), (((p + q) / 2 < m ∧ s0 = (p + q) / 2 + m - q ∧ r0 = (p + q) / 2) ∨ (m ≤ (p + q) / 2 ∧ s0 = p ∧ r0 = m)) ∧ ρ 20 = .int .i64 (s0 : Nat) ∧ ρ 21 = .int .i64 (r0 : Nat) ∧ ρ 0 = .slice (some ⟨bi, oi, none⟩) n c ∧ ρ 1 = .int .i64 (p : Nat) ∧ ρ 2 = .int .i64 (m : Nat) ∧ ρ 3 = .int .i64 (q : Nat) ∧ ρ 4 = .func (.func gf) [].toArray [].toArray ∧ ρ 18 = .int .i64 (((p + q) / 2 : Nat) : Int) ∧ ρ 19 = .int .i64 (((p + q) / 2 + m : Nat) : Int) ∧ BB = F * Sl 3 (.slice (some ⟨bi, oi, none⟩) n c) n (mcs (d))) ?_ ?_
      · skip
        refine tc_cond rfl (fun h => ?_) (fun h => ?_)
        · have hmm : (p + q) / 2 < m := by simp at h; omega
          refine sr ?_; refine tlm ?_; refine tlm ?_; refine tv (by first | exact o_subI rfl rfl (by omega) | exact o_sub rfl rfl) ?_; refine tl_env (d := 143) (v := .int .i64 (((p + q) / 2 + m - q : Nat) : Int)) (by show Value.int .i64 _ = Value.int .i64 _; congr 1; try omega) ?_; refine tla ?_; refine nq ?_; refine tc_reg ?_; refine tlm ?_; refine tla ?_; refine tl_nil ?_; exact ⟨_, _, by first | exact .inl ⟨by simp at h; omega, rfl, rfl⟩ | exact .inr ⟨by simp at h; omega, rfl, rfl⟩, rfl, rfl, rfl, rfl, rfl, rfl, rfl, rfl, rfl, rfl⟩
        · have hmm : m ≤ (p + q) / 2 := by simp at h; omega
          refine sr ?_; refine tlm ?_; refine tla ?_; refine nq ?_; refine tc_reg ?_; refine tlm ?_; refine tla ?_; refine tl_nil ?_; exact ⟨_, _, by first | exact .inl ⟨by simp at h; omega, rfl, rfl⟩ | exact .inr ⟨by simp at h; omega, rfl, rfl⟩, rfl, rfl, rfl, rfl, rfl, rfl, rfl, rfl, rfl, rfl⟩
      · intro ρ B hI
        obtain ⟨s0, r0, hs0, hE20, hE21, hE0, hE1, hE2, hE3, hE4, hE18, hE19, rfl⟩ := hI
        refine q_then_n ?_; refine tc_env (d := 20) hE20 ?_; refine tc_env (d := 21) hE21 ?_; refine tc_env (d := 0) hE0 ?_; refine tc_env (d := 1) hE1 ?_; refine tc_env (d := 2) hE2 ?_; refine tc_env (d := 3) hE3 ?_; refine tc_env (d := 4) hE4 ?_; refine tc_env (d := 18) hE18 ?_; refine tc_env (d := 19) hE19 ?_
        clear hE20 hE21 hE0 hE1 hE2 hE3 hE4 hE18 hE19
        refine sr ?_; refine tlm ?_; refine tv (by first | exact o_subI rfl rfl (by omega) | exact o_sub rfl rfl) ?_; refine tl_env (d := 148) (v := .int .i64 (((p + q) / 2 + m - 1 : Nat) : Int)) (by show Value.int .i64 _ = Value.int .i64 _; congr 1; try omega) ?_; refine tla ?_; refine nq ?_; refine tc_seq ?_; refine tc_block ?_; refine tc_loop (fun kk ρ BB => ∃ (s : Nat) (r : Nat), (s0 ≤ s) ∧ (s ≤ r) ∧ (r ≤ r0) ∧ (s = s0 ∨ ltc cf (gA d ((p + q) / 2 + m - s)) (gA d (s - 1)) = false) ∧ (r = r0 ∨ ltc cf (gA d ((p + q) / 2 + m - 1 - r)) (gA d r) = true) ∧ kk = r - s ∧ ρ 20 = .int .i64 (s : Nat) ∧ ρ 21 = .int .i64 (r : Nat) ∧ ρ 0 = .slice (some ⟨bi, oi, none⟩) n c ∧ ρ 1 = .int .i64 (p : Nat) ∧ ρ 2 = .int .i64 (m : Nat) ∧ ρ 3 = .int .i64 (q : Nat) ∧ ρ 4 = .func (.func gf) [].toArray [].toArray ∧ ρ 18 = .int .i64 (((p + q) / 2 : Nat) : Int) ∧ ρ 19 = .int .i64 (((p + q) / 2 + m : Nat) : Int) ∧ ρ 22 = .int .i64 (((p + q) / 2 + m - 1 : Nat) : Int) ∧ BB = F * Sl 3 (.slice (some ⟨bi, oi, none⟩) n c) n (mcs (d))) (m := (r0) - (s0)) ?_ ?_
        · exact ⟨s0, r0, by omega, by omega, by omega, .inl rfl, .inl rfl, rfl, rfl, rfl, rfl, rfl, rfl, rfl, rfl, rfl, rfl, rfl, rfl⟩
        · intro k ρ B hI
          obtain ⟨s, r, hp0, hp1, hp2, hp3, hp4, hkk5, hE20, hE21, hE0, hE1, hE2, hE3, hE4, hE18, hE19, hE22, rfl⟩ := hI
          refine tc_env (d := 20) hE20 ?_; refine tc_env (d := 21) hE21 ?_; refine tc_env (d := 0) hE0 ?_; refine tc_env (d := 1) hE1 ?_; refine tc_env (d := 2) hE2 ?_; refine tc_env (d := 3) hE3 ?_; refine tc_env (d := 4) hE4 ?_; refine tc_env (d := 18) hE18 ?_; refine tc_env (d := 19) hE19 ?_; refine tc_env (d := 22) hE22 ?_
          clear hE20 hE21 hE0 hE1 hE2 hE3 hE4 hE18 hE19 hE22
          refine tc_seq ?_; refine sr ?_; refine tlm ?_; refine tlm ?_; refine tv (o_lss rfl rfl) ?_; refine nq ?_; refine tc_cond rfl (fun h => ?_) (fun h => ?_)
          · have hsr : s < r := by simp at h; omega
            refine tc_skip ?_; refine q_then_n ?_; refine tc_block ?_; refine sr ?_; refine tlm ?_; refine tlm ?_; refine tv (by first | exact o_addI rfl rfl (by omega) | exact o_add rfl rfl) ?_; refine tl_env (d := 154) (v := .int .i64 ((s + r : Nat) : Int)) (rfl) ?_; refine tv (by first | exact o_conv64 Try.underlying3 Try.underlying92 rfl | exact o_conv Try.underlying3 Try.underlying92 rfl) ?_; refine tl_env (d := 155) (v := .int .u64 ((s + r : Nat) : Int)) (congrArg (fun z : Nat => Value.int .u64 (z : Int)) (Nat.mod_eq_of_lt (by omega))) ?_; refine tv (o_shrN (b := 1) rfl rfl rfl (by decide)) ?_; refine tl_env (d := 156) (v := .int .u64 (((s + r) / 2 : Nat) : Int)) (rfl) ?_; refine tv (o_convI Try.underlying92 Try.underlying3 rfl (wrap_i64 (by omega))) ?_; refine tla ?_; refine nq ?_; refine tc_seq ?_; refine tc_regq mo (by kernel_rfl) ?_; refine ql_v rfl (o_move (by conv => lhs; whnf)) ?_; refine ql_v rfl (o_move (by conv => lhs; whnf)) ?_; refine ql_v rfl (o_move (by conv => lhs; whnf)) ?_; refine ql_v rfl (o_move (by conv => lhs; whnf)) ?_; refine ql_v rfl (by first | exact o_subI rfl rfl (by omega) | exact o_sub rfl rfl) ?_; refine ql_env (d := 162) (v := .int .i64 (((p + q) / 2 + m - 1 - (s + r) / 2 : Nat) : Int)) (by show Value.int .i64 _ = Value.int .i64 _; congr 1; try omega) ?_
            refine ql_v rfl (o_ixP (a := some ⟨bi, oi, none⟩) Try.underlying22 sz35 rfl rfl (by omega) nn_some) ?_; refine ql_v rfl (o_ldPN (a := some ⟨bi, oi, none⟩) (vs := (gA d ((p + q) / 2 + m - 1 - (s + r) / 2)).cells) a35 sz35 rfl (by repeat (first | with_reducible exact rs_sl | apply Rs.left)) (by rw [mcs_at (by omega), gA_eq (by omega)]) rfl (by decide)) ?_; refine ql_v rfl (o_move (by conv => lhs; whnf)) ?_; refine ql_v rfl (o_move (by conv => lhs; whnf)) ?_; refine ql_v rfl (o_ixP (a := some ⟨bi, oi, none⟩) Try.underlying22 sz35 rfl rfl (by omega) nn_some) ?_; refine ql_v rfl (o_ldPN (a := some ⟨bi, oi, none⟩) (vs := (gA d ((s + r) / 2)).cells) a35 sz35 rfl (by repeat (first | with_reducible exact rs_sl | apply Rs.left)) (by rw [mcs_at (by omega), gA_eq (by omega)]) rfl (by decide)) ?_; refine ql_c rfl (fun w => exec_dyn (ho.body) rfl rfl) (ho.run _ (gA d ((p + q) / 2 + m - 1 - (s + r) / 2)) (gA d ((s + r) / 2))) ?_; refine ql_v rfl (o_lss rfl rfl) ?_; refine ql_v rfl (o_not rfl) ?_; refine ql_nil ?_; refine q_then_n ?_; refine tc_cond rfl (fun h => ?_) (fun h => ?_)
            · have hG : (s + r) / 2 + 1 = s0 ∨ ltc cf (gA d ((p + q) / 2 + m - ((s + r) / 2 + 1))) (gA d ((s + r) / 2 + 1 - 1)) = false := .inr (by rw [Nat.add_sub_cancel, show (p + q) / 2 + m - ((s + r) / 2 + 1) = (p + q) / 2 + m - 1 - (s + r) / 2 by omega]; simpa [ltc] using h)
              refine tc_reg ?_; refine tlm ?_; refine tv (by first | exact o_addI rfl rfl (by omega) | exact o_add rfl rfl) ?_; refine tl_env (d := 173) (v := .int .i64 (((s + r) / 2 + 1 : Nat) : Int)) (rfl) ?_; refine tla ?_; refine tl_nil ?_; refine q_block_n (q_then_n ?_); exact ⟨_, by show _ < _; omega, _, _, by omega, by omega, by omega, by first | assumption | exact hG, by first | assumption | exact hG, rfl, rfl, rfl, rfl, rfl, rfl, rfl, rfl, rfl, rfl, rfl, rfl⟩
            · have hG : (s + r) / 2 = r0 ∨ ltc cf (gA d ((p + q) / 2 + m - 1 - (s + r) / 2)) (gA d ((s + r) / 2)) = true := .inr (by simpa [ltc] using h)
              refine tc_reg ?_; refine tlm ?_; refine tla ?_; refine tl_nil ?_; refine q_block_n (q_then_n ?_); exact ⟨_, by show _ < _; omega, _, _, by omega, by omega, by omega, by first | assumption | exact hG, by first | assumption | exact hG, rfl, rfl, rfl, rfl, rfl, rfl, rfl, rfl, rfl, rfl, rfl, rfl⟩
          · obtain rfl : s = r := by simp at h; omega
            refine tc_exit ?_; refine q_then_e (q_then_e (q_block_x (q_then_n ?_))); refine tc_seq ?_
            have g1 : p ≤ s := by omega
            have g2 : s ≤ m := by omega
            have g3 : m ≤ ((p + q) / 2 + m - s) := by omega
            have g4 : ((p + q) / 2 + m - s) ≤ q := by omega
            have g5 : ((p + q) / 2 + m - s) ≤ d.length := by omega
            have gM : (p + q) / 2 = s + (((p + q) / 2 + m - s) - m) := by omega
            have hA : s = p ∨ ((p + q) / 2 + m - s) = q ∨ ltc cf (gA d ((p + q) / 2 + m - s)) (gA d (s - 1)) = false := by
              rcases hp3 with hp3 | hp3
              · rcases hs0 with ⟨_, _, _⟩ | ⟨_, _, _⟩
                · exact .inr (.inl (by omega))
                · exact .inl (by omega)
              · exact .inr (.inr hp3)
            have hB : s = m ∨ ((p + q) / 2 + m - s) = m ∨ ltc cf (gA d (((p + q) / 2 + m - s) - 1)) (gA d s) = true := by
              rcases hp4 with hp4 | hp4
              · rcases hs0 with ⟨_, _, _⟩ | ⟨_, _, _⟩
                · exact .inr (.inl (by omega))
                · exact .inl (by omega)
              · exact .inr (.inr (by rw [show ((p + q) / 2 + m - s) - 1 = (p + q) / 2 + m - 1 - s by omega]; exact hp4))
            have hrl := rotT_len (d := d) g2 g3 g5
            have hsl := symT_len (lt := ltc cf) (d := rotT d s m ((p + q) / 2 + m - s)) g1 (show s ≤ (p + q) / 2 by omega) (by omega)
            have hX1 : Sd (ltc cf) (((rotT d s m ((p + q) / 2 + m - s)).drop p).take (s - p)) := by
              rw [rot_p1 g1 (by omega)]
              have := sd_take hX (s - p)
              rwa [List.take_take, Nat.min_eq_left (by omega)] at this
            have hY1 : Sd (ltc cf) (((rotT d s m ((p + q) / 2 + m - s)).drop s).take ((p + q) / 2 - s)) := by
              rw [show (p + q) / 2 - s = ((p + q) / 2 + m - s) - m by omega, rot_p2 g2 g3 g5]
              have := sd_take hY (((p + q) / 2 + m - s) - m)
              rwa [List.take_take, Nat.min_eq_left (by omega)] at this
            have hX2 : Sd (ltc cf) (((symT (ltc cf) (rotT d s m ((p + q) / 2 + m - s)) p s ((p + q) / 2)).drop ((p + q) / 2)).take (((p + q) / 2 + m - s) - ((p + q) / 2))) := by
              rw [symT_drop g1 (by omega) (by omega)]
              have e3 := rot_p3 (d := d) g2 g3 g5
              rw [← gM] at e3
              rw [show ((p + q) / 2 + m - s) - ((p + q) / 2) = m - s by omega, e3]
              have := sd_drop hX (s - p)
              rwa [List.drop_take, List.drop_drop, show p + (s - p) = s by omega, show m - p - (s - p) = m - s by omega] at this
            have hY2 : Sd (ltc cf) (((symT (ltc cf) (rotT d s m ((p + q) / 2 + m - s)) p s ((p + q) / 2)).drop ((p + q) / 2 + m - s)).take (q - ((p + q) / 2 + m - s))) := by
              have e4 : (symT (ltc cf) (rotT d s m ((p + q) / 2 + m - s)) p s ((p + q) / 2)).drop ((p + q) / 2 + m - s) = d.drop ((p + q) / 2 + m - s) := by
                have e5 := congrArg (List.drop (((p + q) / 2 + m - s) - ((p + q) / 2))) (symT_drop (lt := ltc cf) (d := rotT d s m ((p + q) / 2 + m - s)) g1 (show s ≤ (p + q) / 2 by omega) (by omega))
                rw [List.drop_drop, List.drop_drop, show (p + q) / 2 + (((p + q) / 2 + m - s) - ((p + q) / 2)) = ((p + q) / 2 + m - s) by omega, rot_p4 g2 g3 g5] at e5
                exact e5
              rw [e4]
              have := sd_drop hY (((p + q) / 2 + m - s) - m)
              rwa [List.drop_take, List.drop_drop, show m + (((p + q) / 2 + m - s) - m) = ((p + q) / 2 + m - s) by omega, show q - m - (((p + q) / 2 + m - s) - m) = q - ((p + q) / 2 + m - s) by omega] at this
            refine tc_reg ?_; refine tlm ?_; refine tlm ?_; refine tv (by first | exact o_subI rfl rfl (by omega) | exact o_sub rfl rfl) ?_; refine tl_env (d := 177) (v := .int .i64 ((((p + q) / 2 + m - s) : Nat) : Int)) (by show Value.int .i64 _ = Value.int .i64 _; congr 1; try omega) ?_; refine tla ?_; refine nq ?_; refine tc_seq ?_; refine tc_seq ?_; refine tc_cut (fun ρ BB => ∃ (b1 : Bool), (b1 = true ↔ (s < m ∧ m < ((p + q) / 2 + m - s))) ∧ ρ 185 = .bool b1 ∧ ρ 0 = .slice (some ⟨bi, oi, none⟩) n c ∧ ρ 1 = .int .i64 (p : Nat) ∧ ρ 2 = .int .i64 (m : Nat) ∧ ρ 3 = .int .i64 (q : Nat) ∧ ρ 4 = .func (.func gf) [].toArray [].toArray ∧ ρ 18 = .int .i64 (((p + q) / 2 : Nat) : Int) ∧ ρ 20 = .int .i64 (s : Nat) ∧ ρ 24 = .int .i64 ((((p + q) / 2 + m - s) : Nat) : Int) ∧ BB = F * Sl 3 (.slice (some ⟨bi, oi, none⟩) n c) n (mcs (d))) ?_ ?_
            · skip
              refine tc_reg ?_; refine tlm ?_; refine tlm ?_; refine tv (o_lss rfl rfl) ?_; refine tlm ?_; refine tl_bool (d := 181) rfl (fun h => ?_) (fun h => ?_)
              · try simp only [lv1, lv2, lv3, lv4, lv5, lv6, Bool.not_true, Bool.not_false] at h
                refine tlm ?_; refine tlm ?_; refine tv (o_lss rfl rfl) ?_; refine tv (o_pick_t rfl (by conv => lhs; whnf)) ?_; refine tl_nil ?_; exact ⟨_, by first | (simp; omega) | (simp at *; omega), rfl, rfl, rfl, rfl, rfl, rfl, rfl, rfl, rfl, rfl⟩
              · try simp only [lv1, lv2, lv3, lv4, lv5, lv6, Bool.not_true, Bool.not_false] at h
                refine tk ?_; refine tk ?_; refine tk ?_; refine tv (o_pick_f rfl (by conv => lhs; whnf)) ?_; refine tl_nil ?_; exact ⟨_, by first | (simp; omega) | (simp at *; omega), rfl, rfl, rfl, rfl, rfl, rfl, rfl, rfl, rfl, rfl⟩
            · intro ρ B hI
              obtain ⟨b1, hb10, hE185, hE0, hE1, hE2, hE3, hE4, hE18, hE20, hE24, rfl⟩ := hI
              refine q_then_n ?_; refine tc_env (d := 185) hE185 ?_; refine tc_env (d := 0) hE0 ?_; refine tc_env (d := 1) hE1 ?_; refine tc_env (d := 2) hE2 ?_; refine tc_env (d := 3) hE3 ?_; refine tc_env (d := 4) hE4 ?_; refine tc_env (d := 18) hE18 ?_; refine tc_env (d := 20) hE20 ?_; refine tc_env (d := 24) hE24 ?_
              clear hE185 hE0 hE1 hE2 hE3 hE4 hE18 hE20 hE24
              refine tc_cut (fun ρ BB => ρ 0 = .slice (some ⟨bi, oi, none⟩) n c ∧ ρ 1 = .int .i64 (p : Nat) ∧ ρ 3 = .int .i64 (q : Nat) ∧ ρ 4 = .func (.func gf) [].toArray [].toArray ∧ ρ 18 = .int .i64 (((p + q) / 2 : Nat) : Int) ∧ ρ 20 = .int .i64 (s : Nat) ∧ ρ 24 = .int .i64 ((((p + q) / 2 + m - s) : Nat) : Int) ∧ BB = F * Sl 3 (.slice (some ⟨bi, oi, none⟩) n c) n (mcs (rotT d s m ((p + q) / 2 + m - s)))) ?_ ?_
              · skip
                refine tc_cond rfl (fun h => ?_) (fun h => ?_)
                · have hbb := hb10.1 h
                  refine tc_reg ?_; refine tlm ?_; refine tlm ?_; refine tlm ?_; refine tlm ?_; refine tlm ?_; refine tl_c rfl (o_call bd75 rfl (rot_f F hn hd (by omega) (by omega) (by omega))) ?_; rintro _ _ ⟨rfl, rfl⟩; refine tl_nil ?_; exact ⟨rfl, rfl, rfl, rfl, rfl, rfl, rfl, by first | rfl | rw [rotT_triv g2 g3 (by omega)]⟩
                · have hbb : ¬ (s < m ∧ m < ((p + q) / 2 + m - s)) := fun hc => by rw [hb10.2 hc] at h; cases h
                  refine tc_skip ?_; exact ⟨rfl, rfl, rfl, rfl, rfl, rfl, rfl, by first | rfl | rw [rotT_triv g2 g3 (by omega)]⟩
              · intro ρ B hI
                obtain ⟨hE0, hE1, hE3, hE4, hE18, hE20, hE24, rfl⟩ := hI
                refine q_then_n ?_; refine tc_env (d := 0) hE0 ?_; refine tc_env (d := 1) hE1 ?_; refine tc_env (d := 3) hE3 ?_; refine tc_env (d := 4) hE4 ?_; refine tc_env (d := 18) hE18 ?_; refine tc_env (d := 20) hE20 ?_; refine tc_env (d := 24) hE24 ?_
                clear hE0 hE1 hE3 hE4 hE18 hE20 hE24
                refine tc_seq ?_; refine tc_seq ?_; refine tc_cut (fun ρ BB => ∃ (b2 : Bool), (b2 = true ↔ (p < s ∧ s < (p + q) / 2)) ∧ ρ 199 = .bool b2 ∧ ρ 0 = .slice (some ⟨bi, oi, none⟩) n c ∧ ρ 1 = .int .i64 (p : Nat) ∧ ρ 3 = .int .i64 (q : Nat) ∧ ρ 4 = .func (.func gf) [].toArray [].toArray ∧ ρ 18 = .int .i64 (((p + q) / 2 : Nat) : Int) ∧ ρ 20 = .int .i64 (s : Nat) ∧ ρ 24 = .int .i64 ((((p + q) / 2 + m - s) : Nat) : Int) ∧ BB = F * Sl 3 (.slice (some ⟨bi, oi, none⟩) n c) n (mcs (rotT d s m ((p + q) / 2 + m - s)))) ?_ ?_
                · skip
                  refine tc_reg ?_; refine tlm ?_; refine tlm ?_; refine tv (o_lss rfl rfl) ?_; refine tlm ?_; refine tl_bool (d := 195) rfl (fun h => ?_) (fun h => ?_)
                  · try simp only [lv1, lv2, lv3, lv4, lv5, lv6, Bool.not_true, Bool.not_false] at h
                    refine tlm ?_; refine tlm ?_; refine tv (o_lss rfl rfl) ?_; refine tv (o_pick_t rfl (by conv => lhs; whnf)) ?_; refine tl_nil ?_; exact ⟨_, by first | (simp; omega) | (simp at *; omega), rfl, rfl, rfl, rfl, rfl, rfl, rfl, rfl, rfl⟩
                  · try simp only [lv1, lv2, lv3, lv4, lv5, lv6, Bool.not_true, Bool.not_false] at h
                    refine tk ?_; refine tk ?_; refine tk ?_; refine tv (o_pick_f rfl (by conv => lhs; whnf)) ?_; refine tl_nil ?_; exact ⟨_, by first | (simp; omega) | (simp at *; omega), rfl, rfl, rfl, rfl, rfl, rfl, rfl, rfl, rfl⟩
                · intro ρ B hI
                  obtain ⟨b2, hb20, hE199, hE0, hE1, hE3, hE4, hE18, hE20, hE24, rfl⟩ := hI
                  refine q_then_n ?_; refine tc_env (d := 199) hE199 ?_; refine tc_env (d := 0) hE0 ?_; refine tc_env (d := 1) hE1 ?_; refine tc_env (d := 3) hE3 ?_; refine tc_env (d := 4) hE4 ?_; refine tc_env (d := 18) hE18 ?_; refine tc_env (d := 20) hE20 ?_; refine tc_env (d := 24) hE24 ?_
                  clear hE199 hE0 hE1 hE3 hE4 hE18 hE20 hE24
                  refine tc_cut (fun ρ BB => ρ 0 = .slice (some ⟨bi, oi, none⟩) n c ∧ ρ 3 = .int .i64 (q : Nat) ∧ ρ 4 = .func (.func gf) [].toArray [].toArray ∧ ρ 18 = .int .i64 (((p + q) / 2 : Nat) : Int) ∧ ρ 24 = .int .i64 ((((p + q) / 2 + m - s) : Nat) : Int) ∧ BB = F * Sl 3 (.slice (some ⟨bi, oi, none⟩) n c) n (mcs (symT (ltc cf) (rotT d s m ((p + q) / 2 + m - s)) p s ((p + q) / 2)))) ?_ ?_
                  · skip
                    refine tc_cond rfl (fun h => ?_) (fun h => ?_)
                    · have hbb := hb20.1 h
                      refine tc_reg ?_; refine tlm ?_; refine tlm ?_; refine tlm ?_; refine tlm ?_; refine tlm ?_; refine tl_c rfl (o_call bd74 rfl (hIH p s ((p + q) / 2) (rotT d s m ((p + q) / 2 + m - s)) (by omega) (by omega) (by omega) (by omega) (by omega) hX1 hY1)) ?_; rintro _ _ ⟨rfl, rfl⟩; refine tl_nil ?_; exact ⟨rfl, rfl, rfl, rfl, rfl, by first | rfl | rw [symT_left (by omega) (by omega) (by omega)]⟩
                    · have hbb : ¬ (p < s ∧ s < (p + q) / 2) := fun hc => by rw [hb20.2 hc] at h; cases h
                      refine tc_skip ?_; exact ⟨rfl, rfl, rfl, rfl, rfl, by first | rfl | rw [symT_left (by omega) (by omega) (by omega)]⟩
                  · intro ρ B hI
                    obtain ⟨hE0, hE3, hE4, hE18, hE24, rfl⟩ := hI
                    refine q_then_n ?_; refine tc_env (d := 0) hE0 ?_; refine tc_env (d := 3) hE3 ?_; refine tc_env (d := 4) hE4 ?_; refine tc_env (d := 18) hE18 ?_; refine tc_env (d := 24) hE24 ?_
                    clear hE0 hE3 hE4 hE18 hE24
                    refine tc_seq ?_; refine tc_cut (fun ρ BB => ∃ (b3 : Bool), (b3 = true ↔ ((p + q) / 2 < ((p + q) / 2 + m - s) ∧ ((p + q) / 2 + m - s) < q)) ∧ ρ 213 = .bool b3 ∧ ρ 0 = .slice (some ⟨bi, oi, none⟩) n c ∧ ρ 3 = .int .i64 (q : Nat) ∧ ρ 4 = .func (.func gf) [].toArray [].toArray ∧ ρ 18 = .int .i64 (((p + q) / 2 : Nat) : Int) ∧ ρ 24 = .int .i64 ((((p + q) / 2 + m - s) : Nat) : Int) ∧ BB = F * Sl 3 (.slice (some ⟨bi, oi, none⟩) n c) n (mcs (symT (ltc cf) (rotT d s m ((p + q) / 2 + m - s)) p s ((p + q) / 2)))) ?_ ?_
                    · skip
                      refine tc_reg ?_; refine tlm ?_; refine tlm ?_; refine tv (o_lss rfl rfl) ?_; refine tlm ?_; refine tl_bool (d := 209) rfl (fun h => ?_) (fun h => ?_)
                      · try simp only [lv1, lv2, lv3, lv4, lv5, lv6, Bool.not_true, Bool.not_false] at h
                        refine tlm ?_; refine tlm ?_; refine tv (o_lss rfl rfl) ?_; refine tv (o_pick_t rfl (by conv => lhs; whnf)) ?_; refine tl_nil ?_; exact ⟨_, by first | (simp; omega) | (simp at *; omega), rfl, rfl, rfl, rfl, rfl, rfl, rfl⟩
                      · try simp only [lv1, lv2, lv3, lv4, lv5, lv6, Bool.not_true, Bool.not_false] at h
                        refine tk ?_; refine tk ?_; refine tk ?_; refine tv (o_pick_f rfl (by conv => lhs; whnf)) ?_; refine tl_nil ?_; exact ⟨_, by first | (simp; omega) | (simp at *; omega), rfl, rfl, rfl, rfl, rfl, rfl, rfl⟩
                    · intro ρ B hI
                      obtain ⟨b3, hb30, hE213, hE0, hE3, hE4, hE18, hE24, rfl⟩ := hI
                      refine q_then_n ?_; refine tc_env (d := 213) hE213 ?_; refine tc_env (d := 0) hE0 ?_; refine tc_env (d := 3) hE3 ?_; refine tc_env (d := 4) hE4 ?_; refine tc_env (d := 18) hE18 ?_; refine tc_env (d := 24) hE24 ?_
                      clear hE213 hE0 hE3 hE4 hE18 hE24
                      refine tc_cond rfl (fun h => ?_) (fun h => ?_)
                      · have hbb := hb30.1 h
                        refine tc_reg ?_; refine tlm ?_; refine tlm ?_; refine tlm ?_; refine tlm ?_; refine tlm ?_; refine tl_c rfl (o_call bd74 rfl (hIH ((p + q) / 2) ((p + q) / 2 + m - s) q (symT (ltc cf) (rotT d s m ((p + q) / 2 + m - s)) p s ((p + q) / 2)) (by omega) (by omega) (by omega) (by omega) (by omega) hX2 hY2)) ?_; rintro _ _ ⟨rfl, rfl⟩; refine tl_nil ?_
                        rw [sym_all hw g1 g2 g3 g4 (by omega) gM hX hY hA hB]
                        exact ⟨.tuple #[], F * Sl 3 (.slice (some ⟨bi, oi, none⟩) n c) n (mcs (symT (ltc cf) d p m q)), res0 rfl, Dr.sat (by repeat (first | with_reducible exact dr_refl | apply dr_keep | apply dr_drop)), rfl, rfl⟩
                      · have hbb : ¬ ((p + q) / 2 < ((p + q) / 2 + m - s) ∧ ((p + q) / 2 + m - s) < q) := fun hc => by rw [hb30.2 hc] at h; cases h
                        refine tc_skip ?_
                        rw [← symT_left (lt := ltc cf) (d := symT (ltc cf) (rotT d s m ((p + q) / 2 + m - s)) p s ((p + q) / 2)) (p := (p + q) / 2) (m := ((p + q) / 2 + m - s)) (q := q) (by omega) (by omega) (by omega), sym_all hw g1 g2 g3 g4 (by omega) gM hX hY hA hB]
                        exact ⟨.tuple #[], F * Sl 3 (.slice (some ⟨bi, oi, none⟩) n c) n (mcs (symT (ltc cf) d p m q)), res0 rfl, Dr.sat (by repeat (first | with_reducible exact dr_refl | apply dr_keep | apply dr_drop)), rfl, rfl⟩
theorem sym_f (F : SP) {a : Option Addr} {c n gf : Nat} {cf : Mk → Mk → Int} (ho : OrdF gf cf) (hw : SWO (ltc cf)) (hn : n ≤ 1125899906842624) : ∀ (K p m q : Nat) (d : List Mk), q - p ≤ K → p < m → m < q → q ≤ n → d.length = n → Sd (ltc cf) ((d.drop p).take (m - p)) → Sd (ltc cf) ((d.drop m).take (q - m)) →
    Fn Try.prog 74 #[.slice a n c, .int .i64 (p : Nat), .int .i64 (m : Nat), .int .i64 (q : Nat), .func (.func gf) [].toArray [].toArray] (F * Sl 3 (.slice a n c) n (mcs (d))) (fun r B => r = .tuple #[] ∧ B = F * Sl 3 (.slice a n c) n (mcs (symT (ltc cf) d p m q))) := by
  intro K
  induction K with
  | zero => intro p m q d h; omega
  | succ K ih => exact fun p m q d hK h1 h2 h3 hd hX hY => sym_st F ho hw hn hd h1 h2 h3 hX hY fun p1 m1 q1 d1 hlt a1 a2 a3 a4 a5 a6 => ih p1 m1 q1 d1 (by omega) a1 a2 a3 a4 a5 a6
section
variable {α : Type} {lt : α → α → Bool}
/-- The blocks up to a are sorted, what stands behind it is as it was. -/
structure Bl1 (lt : α → α → Bool) (bs a : Nat) (l d : List α) : Prop where
  len : d.length = l.length
  done : ∀ k, (k + 1) * bs ≤ a → SS lt ((l.drop (k * bs)).take bs) ((d.drop (k * bs)).take bs)
  rest : d.drop a = l.drop a
theorem bl1_zero {bs : Nat} {l : List α} (hb : 0 < bs) : Bl1 lt bs 0 l l := ⟨rfl, fun k hk => by
  have : 0 < (k + 1) * bs := Nat.mul_pos (by omega) hb
  omega, rfl⟩
theorem take_pre {d d2 : List α} {a x y : Nat} (h : d2.take a = d.take a) (hx : x + y ≤ a) : (d2.drop x).take y = (d.drop x).take y := by
  have h1 := congrArg (fun l : List α => (l.drop x).take y) h
  simp only [List.drop_take, List.take_take, Nat.min_eq_left (show y ≤ a - x by omega)] at h1
  exact h1
theorem bl1_step {bs q : Nat} {l d d2 : List α} (h : Bl1 lt bs (q * bs) l d) (hi : InsR lt (q * bs) (q * bs + bs) d d2) : Bl1 lt bs ((q + 1) * bs) l d2 := by
  have e : (q + 1) * bs = q * bs + bs := by rw [Nat.add_mul]; omega
  refine ⟨hi.len.trans h.len, fun k hk => ?_, ?_⟩
  · rcases Nat.lt_or_ge k q with hlt | hge
    · have h1 : (k + 1) * bs ≤ q * bs := Nat.mul_le_mul_right _ hlt
      rw [take_pre hi.pre (by rw [Nat.add_mul] at h1; omega)]
      exact h.done k h1
    · by_cases hb : bs = 0
      · subst hb; simp only [List.take_zero]; exact ss_nil
      · obtain rfl : k = q := by
          have : ¬ q < k := fun hc => by
            have : (q + 1 + 1) * bs ≤ (k + 1) * bs := Nat.mul_le_mul_right _ (by omega)
            rw [Nat.add_mul (q + 1)] at this; omega
          omega
        have := hi.ss
        rw [h.rest, Nat.add_sub_cancel_left] at this
        exact this
  · rw [e, hi.post]
    have := congrArg (List.drop bs) h.rest
    rwa [List.drop_drop, List.drop_drop] at this
theorem bl1_last {bs q n : Nat} {l d d2 : List α} (hb : 0 < bs) (h : Bl1 lt bs (q * bs) l d) (hn : d.length = n) (h1 : q * bs ≤ n) (h2 : n < q * bs + bs) (hi : InsR lt (q * bs) n d d2) : Blk lt bs l d2 := by
  refine ⟨hi.len.trans h.len, fun k => ?_⟩
  have hl := h.len
  have hl2 := hi.len
  rcases Nat.lt_trichotomy k q with hlt | rfl | hgt
  · have h3 : (k + 1) * bs ≤ q * bs := Nat.mul_le_mul_right _ hlt
    rw [take_pre hi.pre (by rw [Nat.add_mul] at h3; omega)]
    exact h.done k h3
  · have := hi.ss
    rw [h.rest, List.take_of_length_le (by rw [List.length_drop]; omega), List.take_of_length_le (by rw [List.length_drop]; omega)] at this
    rw [List.take_of_length_le (by rw [List.length_drop]; omega), List.take_of_length_le (by rw [List.length_drop]; omega)]
    exact this
  · have h3 : (q + 1) * bs ≤ k * bs := Nat.mul_le_mul_right _ hgt
    rw [Nat.add_mul] at h3
    rw [List.drop_of_length_le (by omega), List.drop_of_length_le (by omega), List.take_nil]
    exact ss_nil
theorem blm_sd {bs q : Nat} {l d : List α} (h : Blm lt bs (q * (2 * bs)) l d) : Sd lt ((d.drop (q * (2 * bs))).take bs) ∧ Sd lt ((d.drop (q * (2 * bs) + bs)).take bs) := by
  have e2 : q * 2 * bs = q * (2 * bs) := Nat.mul_assoc _ _ _
  have e3 : (q * 2 + 1) * bs = q * (2 * bs) + bs := by rw [Nat.add_mul, e2]; omega
  have h1 := h.one (q * 2) (by omega)
  have h2 := h.one (q * 2 + 1) (by omega)
  rw [e2] at h1
  rw [e3] at h2
  exact ⟨h1.sd, h2.sd⟩
end
set_option maxRecDepth 20000 in
set_option maxHeartbeats 2000000 in
theorem stb_f (F : SP) {a : Option Addr} {c n gf : Nat} {cf : Mk → Mk → Int} (ho : OrdF gf cf) (hw : SWO (ltc cf)) (hn : n ≤ 1125899906842624) {d : List Mk} (hd : d.length = n) :
    Fn Try.prog 69 #[.slice a n c, .int .i64 (n : Nat), .func (.func gf) [].toArray [].toArray] (F * Sl 3 (.slice a n c) n (mcs (d))) (fun r B => ∃ d2, r = .tuple #[] ∧ SS (ltc cf) d d2 ∧ B = F * Sl 3 (.slice a n c) n (mcs (d2))) := by
  refine fn_enterW (args := [.slice a n c, .int .i64 (n : Nat), .func (.func gf) [].toArray [].toArray]) Try.func69 rfl Try.ntmps69 (by simp) ?_; refine sr ?_; refine tla ?_; refine nq ?_; refine sr ?_; refine tlm ?_; refine tla ?_; refine tla ?_; refine nq ?_; refine tc_seq ?_; refine tc_block ?_; refine tc_loop (fun kk ρ BB => ∃ (w : Nat) (d1 : List Mk), (w * 20 ≤ n) ∧ (Bl1 (ltc cf) 20 (w * 20) d d1) ∧ (d1.length = n) ∧ kk = n + 1 - w * 20 ∧ ρ 7 = .int .i64 ((w * 20 : Nat) : Int) ∧ ρ 8 = .int .i64 ((w * 20 + 20 : Nat) : Int) ∧ ρ 0 = .slice a n c ∧ ρ 1 = .int .i64 (n : Nat) ∧ ρ 2 = .func (.func gf) [].toArray [].toArray ∧ ρ 6 = .int .i64 ((20 : Nat) : Int) ∧ BB = F * Sl 3 (.slice a n c) n (mcs (d1))) (m := n + 1 - (0) * 20) ?_ ?_
  · exact ⟨0, d, by omega, bl1_zero (by decide), hd, rfl, rfl, rfl, rfl, rfl, rfl, rfl, rfl⟩
  · intro k ρ B hI
    obtain ⟨w, d1, hp0, hp1, hp2, hkk1, hE7, hE8, hE0, hE1, hE2, hE6, rfl⟩ := hI
    refine tc_env (d := 7) hE7 ?_; refine tc_env (d := 8) hE8 ?_; refine tc_env (d := 0) hE0 ?_; refine tc_env (d := 1) hE1 ?_; refine tc_env (d := 2) hE2 ?_; refine tc_env (d := 6) hE6 ?_
    clear hE7 hE8 hE0 hE1 hE2 hE6
    refine tc_seq ?_; refine sr ?_; refine tlm ?_; refine tlm ?_; refine tv (o_leq rfl rfl) ?_; refine nq ?_; refine tc_cond rfl (fun h => ?_) (fun h => ?_)
    · have hw20 : w * 20 + 20 ≤ n := by simp at h; omega
      refine tc_skip ?_; refine q_then_n ?_; refine tc_block ?_; refine sr ?_; refine tlm ?_; refine tlm ?_; refine tlm ?_; refine tlm ?_; refine tl_c rfl (o_call bd73 rfl (ins_f F ho hw hn (p := w * 20) (q := w * 20 + 20) hp2 (by omega) hw20)) ?_; rintro _ _ ⟨d18, rfl, hi18, rfl⟩; refine nq ?_; refine sr ?_; refine tlm ?_; refine tla ?_; refine nq ?_; refine tc_reg ?_; refine tlm ?_; refine tlm ?_; refine tv (by first | exact o_addI rfl rfl (by omega) | exact o_add rfl rfl) ?_; refine tla ?_; refine tl_nil ?_; refine q_block_n (q_then_n ?_); exact ⟨_, by omega, w + 1, d18, by omega, bl1_step hp1 hi18, by rw [hi18.len]; exact hp2, rfl, by show Value.int .i64 _ = Value.int .i64 _; congr 1; try omega, by show Value.int .i64 _ = Value.int .i64 _; congr 1; try omega, rfl, rfl, rfl, rfl, rfl⟩
    · have hw20 : n < w * 20 + 20 := by simp at h; omega
      refine tc_exit ?_; refine q_then_e (q_then_e (q_block_x (q_then_n ?_))); refine sr ?_; refine tlm ?_; refine tlm ?_; refine tlm ?_; refine tlm ?_; refine tl_c rfl (o_call bd73 rfl (ins_f F ho hw hn (p := w * 20) (q := n) hp2 hp0 (Nat.le_refl _))) ?_; rintro _ _ ⟨d27, rfl, hi27, rfl⟩; refine nq ?_; refine tc_block ?_; refine tc_loop (fun kk ρ BB => ∃ (bs : Nat) (d2 : List Mk), (0 < bs) ∧ (bs ≤ n + n + 20) ∧ (Blk (ltc cf) bs d d2) ∧ kk = n - bs ∧ ρ 6 = .int .i64 (bs : Nat) ∧ ρ 0 = .slice a n c ∧ ρ 1 = .int .i64 (n : Nat) ∧ ρ 2 = .func (.func gf) [].toArray [].toArray ∧ BB = F * Sl 3 (.slice a n c) n (mcs (d2))) (m := n - (20)) ?_ ?_
      · exact ⟨20, d27, by omega, by omega, bl1_last (by decide) hp1 hp2 hp0 hw20 hi27, rfl, rfl, rfl, rfl, rfl, rfl⟩
      · intro k ρ B hI
        obtain ⟨bs, d2, hq0, hq1, hq2, hkk2, hE6, hE0, hE1, hE2, rfl⟩ := hI
        refine tc_env (d := 6) hE6 ?_; refine tc_env (d := 0) hE0 ?_; refine tc_env (d := 1) hE1 ?_; refine tc_env (d := 2) hE2 ?_
        clear hE6 hE0 hE1 hE2
        refine tc_seq ?_; refine sr ?_; refine tlm ?_; refine tlm ?_; refine tv (o_lss rfl rfl) ?_; refine nq ?_; refine tc_cond rfl (fun h => ?_) (fun h => ?_)
        · have hbn : bs < n := by simp at h; omega
          have hd2 : d2.length = n := hq2.1.trans hd
          refine tc_skip ?_; refine q_then_n ?_; refine tc_block ?_; refine sr ?_; refine tlm ?_; refine tv (by first | exact o_mulI rfl rfl (by omega) | exact o_mul rfl rfl) ?_; refine tl_env (d := 32) (v := .int .i64 ((2 * bs : Nat) : Int)) (by show Value.int .i64 _ = Value.int .i64 _; congr 1; try omega) ?_; refine tla ?_; refine tla ?_; refine nq ?_; refine tc_seq ?_; refine tc_block ?_; refine tc_loop (fun kk ρ BB => ∃ (u : Nat) (d3 : List Mk), (Blm (ltc cf) bs (u * (2 * bs)) d d3) ∧ (d3.length = n) ∧ (u * (2 * bs) ≤ n) ∧ kk = n + 1 - u * (2 * bs) ∧ ρ 7 = .int .i64 ((u * (2 * bs) : Nat) : Int) ∧ ρ 8 = .int .i64 ((u * (2 * bs) + 2 * bs : Nat) : Int) ∧ ρ 0 = .slice a n c ∧ ρ 1 = .int .i64 (n : Nat) ∧ ρ 2 = .func (.func gf) [].toArray [].toArray ∧ ρ 6 = .int .i64 (bs : Nat) ∧ BB = F * Sl 3 (.slice a n c) n (mcs (d3))) (m := n + 1 - (0) * (2 * bs)) ?_ ?_
          · exact ⟨0, d2, by rw [Nat.zero_mul]; exact blm_zero hq0 hq2, hd2, by omega, rfl, by rw [Nat.zero_mul]; rfl, by rw [Nat.zero_mul, Nat.zero_add]; rfl, rfl, rfl, rfl, rfl, rfl⟩
          · intro k ρ B hI
            obtain ⟨u, d3, hr0, hr1, hr2, hkk3, hE7, hE8, hE0, hE1, hE2, hE6, rfl⟩ := hI
            refine tc_env (d := 7) hE7 ?_; refine tc_env (d := 8) hE8 ?_; refine tc_env (d := 0) hE0 ?_; refine tc_env (d := 1) hE1 ?_; refine tc_env (d := 2) hE2 ?_; refine tc_env (d := 6) hE6 ?_
            clear hE7 hE8 hE0 hE1 hE2 hE6
            refine tc_seq ?_; refine sr ?_; refine tlm ?_; refine tlm ?_; refine tv (o_leq rfl rfl) ?_; refine nq ?_; refine tc_cond rfl (fun h => ?_) (fun h => ?_)
            · have hub : u * (2 * bs) + 2 * bs ≤ n := by first | (have h2 := of_decide_eq_true h; omega) | omega
              have he1 : (u + 1) * (2 * bs) = u * (2 * bs) + 2 * bs := by rw [Nat.add_mul]; omega
              obtain ⟨hs1, hs2⟩ := blm_sd hr0
              refine tc_skip ?_; refine q_then_n ?_; refine tc_block ?_; refine sr ?_; refine tlm ?_; refine tlm ?_; refine tlm ?_; refine tlm ?_; refine tv (by first | exact o_addI rfl rfl (by omega) | exact o_add rfl rfl) ?_; refine tl_env (d := 40) (v := .int .i64 ((u * (2 * bs) + bs : Nat) : Int)) (rfl) ?_; refine tlm ?_; refine tlm ?_; refine tl_c rfl (o_call bd74 rfl (sym_f F ho hw hn _ (u * (2 * bs)) (u * (2 * bs) + bs) (u * (2 * bs) + 2 * bs) d3 (Nat.le_refl _) (by omega) (by omega) hub hr1 (by rw [Nat.add_sub_cancel_left]; exact hs1) (by rw [show u * (2 * bs) + 2 * bs - (u * (2 * bs) + bs) = bs by omega]; exact hs2))) ?_; rintro _ _ ⟨rfl, rfl⟩
              have hbm := blm_step hw hq0 hr0 (by omega)
              have hbe : d3.take (u * (2 * bs)) ++ (mg (ltc cf) ((d3.drop (u * (2 * bs))).take bs) ((d3.drop (u * (2 * bs) + bs)).take bs) ++ d3.drop (u * (2 * bs) + 2 * bs)) = symT (ltc cf) d3 (u * (2 * bs)) (u * (2 * bs) + bs) (u * (2 * bs) + 2 * bs) := by unfold symT; rw [Nat.add_sub_cancel_left, show u * (2 * bs) + 2 * bs - (u * (2 * bs) + bs) = bs by omega]
              rw [hbe] at hbm
              have hbl : (symT (ltc cf) d3 (u * (2 * bs)) (u * (2 * bs) + bs) (u * (2 * bs) + 2 * bs)).length = n := by rw [symT_len (by omega) (by omega) (by omega)]; exact hr1
              refine nq ?_; refine sr ?_; refine tlm ?_; refine tla ?_; refine nq ?_; refine tc_reg ?_; refine tlm ?_; refine tlm ?_; refine tv (by first | exact o_mulI rfl rfl (by omega) | exact o_mul rfl rfl) ?_; refine tl_env (d := 47) (v := .int .i64 ((2 * bs : Nat) : Int)) (by show Value.int .i64 _ = Value.int .i64 _; congr 1; try omega) ?_; refine tv (by first | exact o_addI rfl rfl (by omega) | exact o_add rfl rfl) ?_; refine tla ?_; refine tl_nil ?_; refine q_block_n (q_then_n ?_); exact ⟨_, by rw [he1]; omega, u + 1, _, by exact hbm, by exact hbl, by omega, rfl, by rw [he1]; rfl, by rw [he1]; first | rfl | (show Value.int .i64 _ = Value.int .i64 _; congr 1; omega), rfl, rfl, rfl, rfl, rfl⟩
            · have hub : n < u * (2 * bs) + 2 * bs := by first | (have h2 := of_decide_eq_false h; omega) | omega
              obtain ⟨hs1, hs2⟩ := blm_sd hr0
              refine tc_exit ?_; refine q_then_e (q_then_e (q_block_x (q_then_n ?_))); refine tc_seq ?_; refine sr ?_; refine tlm ?_; refine tlm ?_; refine tv (by first | exact o_addI rfl rfl (by omega) | exact o_add rfl rfl) ?_; refine tl_env (d := 51) (v := .int .i64 ((u * (2 * bs) + bs : Nat) : Int)) (rfl) ?_; refine tla ?_; refine nq ?_; refine sr ?_; refine tlm ?_; refine tlm ?_; refine tv (o_lss rfl rfl) ?_; refine nq ?_; refine tc_cond rfl (fun h => ?_) (fun h => ?_)
              · have hmb : u * (2 * bs) + bs < n := by first | (have h2 := of_decide_eq_true h; omega) | omega
                refine tc_reg ?_; refine tlm ?_; refine tlm ?_; refine tlm ?_; refine tlm ?_; refine tlm ?_; refine tl_c rfl (o_call bd74 rfl (sym_f F ho hw hn _ (u * (2 * bs)) (u * (2 * bs) + bs) n d3 (Nat.le_refl _) (by omega) hmb (Nat.le_refl _) hr1 (by rw [Nat.add_sub_cancel_left]; exact hs1) (by have := hs2; rw [List.take_of_length_le (by rw [List.length_drop]; omega)] at this ⊢; exact this))) ?_; rintro _ _ ⟨rfl, rfl⟩
                have hdone := blm_last hw hq0 hr0 (by omega) (by omega)
                have hbe : d3.take (u * (2 * bs)) ++ mg (ltc cf) ((d3.drop (u * (2 * bs))).take bs) (d3.drop (u * (2 * bs) + bs)) = symT (ltc cf) d3 (u * (2 * bs)) (u * (2 * bs) + bs) n := by unfold symT; rw [Nat.add_sub_cancel_left, List.take_of_length_le (l := d3.drop (u * (2 * bs) + bs)) (by rw [List.length_drop]; omega), List.drop_of_length_le (l := d3) (i := n) (by omega), List.append_nil]
                rw [hbe] at hdone
                refine nq ?_; refine tc_reg ?_; refine tlm ?_; refine tv (by first | exact o_mulI rfl rfl (by omega) | exact o_mul rfl rfl) ?_; refine tl_env (d := 62) (v := .int .i64 ((bs * 2 : Nat) : Int)) (by show Value.int .i64 _ = Value.int .i64 _; congr 1; try omega) ?_; refine tla ?_; refine tl_nil ?_; refine q_block_n (q_then_n ?_); exact ⟨_, by show _ < _; omega, bs * 2, _, by omega, by omega, by rw [Nat.mul_comm]; first | exact hdone | exact blm_last hw hq0 hr0 (by omega) (by omega), rfl, rfl, rfl, rfl, rfl, rfl⟩
              · have hmb : n ≤ u * (2 * bs) + bs := by first | (have h2 := of_decide_eq_false h; omega) | omega
                have hdone := blm_end hw hq0 hr0 (by omega)
                refine tc_skip ?_; refine q_then_n ?_; refine tc_reg ?_; refine tlm ?_; refine tv (by first | exact o_mulI rfl rfl (by omega) | exact o_mul rfl rfl) ?_; refine tl_env (d := 62) (v := .int .i64 ((bs * 2 : Nat) : Int)) (by show Value.int .i64 _ = Value.int .i64 _; congr 1; try omega) ?_; refine tla ?_; refine tl_nil ?_; refine q_block_n (q_then_n ?_); exact ⟨_, by show _ < _; omega, bs * 2, _, by omega, by omega, by rw [Nat.mul_comm]; first | exact hdone | exact blm_last hw hq0 hr0 (by omega) (by omega), rfl, rfl, rfl, rfl, rfl, rfl⟩
        · have hbn : n ≤ bs := by simp at h; omega
          have hd2 : d2.length = n := hq2.1.trans hd
          refine tc_exit ?_; refine q_then_e (q_then_e (q_block_x ?_)); exact ⟨.tuple #[], F * Sl 3 (.slice a n c) n (mcs (d2)), res0 rfl, Dr.sat (by repeat (first | with_reducible exact dr_refl | apply dr_keep | apply dr_drop)), d2, rfl, blk_all hq2 (by omega), rfl⟩
theorem ssf_f (F : SP) {a : Option Addr} {c n gf : Nat} {cf : Mk → Mk → Int} (ho : OrdF gf cf) (hw : SWO (ltc cf)) (hn : n ≤ 1125899906842624) {d : List Mk} (hd : d.length = n) :
    Fn Try.prog 56 #[.slice a n c, .func (.func gf) [].toArray [].toArray] (F * Sl 3 (.slice a n c) n (mcs (d))) (fun r B => r = .tuple #[] ∧ B = F * Sl 3 (.slice a n c) n (mcs (srt (ltc cf) d))) := by
  refine fn_enterW (args := [.slice a n c, .func (.func gf) [].toArray [].toArray]) Try.func56 rfl Try.ntmps56 (by simp) ?_; refine tc_reg ?_; refine tlm ?_; refine tlm ?_; refine tv (o_len Try.underlying22 rfl) ?_; refine tlm ?_; refine tl_c rfl (o_call bd69 rfl (stb_f F ho hw hn hd)) ?_; rintro _ _ ⟨d8, rfl, hss8, rfl⟩; refine tl_nil ?_
  rw [srt_of hw hss8]
  exact ⟨.tuple #[], F * Sl 3 (.slice a n c) n (mcs (srt (ltc cf) d)), res0 rfl, Dr.sat (by repeat (first | with_reducible exact dr_refl | apply dr_keep | apply dr_drop)), rfl, rfl⟩
end Go.Vl

set_option linter.unusedVariables false
set_option linter.unusedSimpArgs false
namespace Go.Vl
open Go Go.Proofs
/-! ### Structs of ints that are held against each other -/
def intF (P : Program) (f : Field) : Bool := f.name != "_" && plainE P f.type && (match P.underlying f.type with | some (.int _) => true | _ => false)
/-- A struct whose fields are ints, one a cell. -/
def flatI (P : Program) (fs : Array Field) (n : Nat) : Bool := ((fs.toList.map fun f => f.offset) == List.range n) && fs.toList.all (intF P)
theorem range_eq {n : Nat} {xs ys : List Value} {l m : List Int} (hl : l.length = n) (hm : m.length = n) : ((List.range n).all fun i => l[i]? == m[i]?) = decide (l = m) := by
  by_cases e : l = m
  · subst e; simp
  · rw [decide_eq_false e]
    cases hb : (List.range n).all fun i => l[i]? == m[i]? with
    | false => rfl
    | true =>
      exfalso; apply e
      apply List.ext_getElem?
      intro i
      by_cases hi : i < n
      · rw [List.all_eq_true] at hb
        have := hb i (by simp; exact hi)
        simpa using this
      · rw [List.getElem?_eq_none (by omega), List.getElem?_eq_none (by omega)]
section
variable {P : Program} {n : Nat} {ρ : Env} {A : SP} {dst : Option Tmp} {ty : TypeId} {pos : String} {after : Array Edge} {gd : Option (Nat × Bool)}
/-! ### A slice as an array -/
/-! ### 32 bits -/
/-! ### Bytes that may be a string's -/
end
theorem rs_mk {R : SP} {b : Nat} {l : List Value} {E : TypeId} {fz : Nat × Nat} : Rs (R * pt b (.cells l.toArray E fz)) (some ⟨b, 0, none⟩) l := fun g w hs i v hv => by
  have h := has_here g w hs
  refine ⟨b, 0, rfl, ?_⟩
  simp only [World.cell?, h, Nat.zero_add, List.getElem?_toArray]
  simpa using hv
/-- A string of bytes. -/
def sob (xs : List Nat) : ByteArray := ⟨(xs.map fun n => UInt8.ofNat n).toArray⟩
theorem o_b2s {P : Program} {n : Nat} {ρ : Env} {A : SP} {dst : Option Tmp} {ty : TypeId} {pos : String} {after : Array Edge} {gd : Option (Nat × Bool)} {s t e : TypeId} {x : Operand} {a : Option Addr} {m c : Nat} {xs : List Nat} (hs : P.underlying s = some (.slice e)) (he : P.underlying e = some (.int .u8)) (ht : P.underlying t = some .string)
    (hx : ev n ρ x = .slice a m c) (hr : Rs A a (bys xs)) (hm : xs.length = m) (h0 : 0 < m) : OpV P n ρ A ⟨dst, .convert s t x, ty, pos, after, gd⟩ (.string (sob xs)) := fun g w hsat => by
  have h00 : (bys xs)[0]? = some ((bys xs)[0]'(by rw [bys_length]; omega)) := List.getElem?_eq_getElem _
  obtain ⟨b, o, rfl, _⟩ := hr g w hsat 0 _ h00
  simp only [execOp, hx]
  rw [run_bind (w' := w) (a := .string (sob xs))]
  · rfl
  rw [run_convert_bytes_arg w s e hs he b o m c (xs.map fun (q : Nat) => (q : Int)) (by simp [hm]) (fun i hi => ?_) t ht]
  · simp [strOfNums, sob, List.map_map, Function.comp_def]
  · have hi' : i < xs.length := by omega
    have h1 := bys_at hi'
    obtain ⟨b', o', e', hc⟩ := hr g w hsat i _ h1
    simp only [Option.some.injEq, Addr.mk.injEq, and_true] at e'
    obtain ⟨rfl, rfl⟩ := e'
    rw [hc]
    simp [hi']
end Go.Vl

set_option linter.unusedVariables false
set_option linter.unusedSimpArgs false
namespace Go.Vl
open Go Go.Proofs
/-- An entry: its key, its value, when it came. -/
structure ME where
  k : Int
  v : Value
  b : Nat
/-- The entries, and the clock. -/
structure MS where
  D : List ME
  c : Nat
def ment (ik : IntKind) (e : ME) : MapEntry := ⟨.int ik e.k, e.v, e.b⟩
def mpo (ik : IntKind) (M : MS) : Obj := .map (M.D.map (ment ik)).toArray M.c
def mfind : List ME → Int → Nat → Option (Nat × Value)
  | [], _, _ => none
  | e :: D, a, i => if a = e.k then some (i, e.v) else mfind D a (i + 1)
def MS.get (M : MS) (a : Int) : Option Value := (mfind M.D a 0).map Prod.snd
def MS.put (M : MS) (a : Int) (v : Value) : MS := match mfind M.D a 0 with
  | some (i, _) => ⟨M.D.modify i (fun e => ⟨e.k, v, e.b⟩), M.c⟩
  | none => ⟨M.D ++ [⟨a, v, M.c⟩], M.c + 1⟩
def MS.del (M : MS) (a : Int) : MS := match mfind M.D a 0 with
  | some (i, _) => ⟨M.D.eraseIdx i, M.c⟩
  | none => M
def MS.clr (M : MS) : MS := ⟨[], M.c⟩
/-- What a map may be: no key twice, nor a time of coming; all came before now. -/
structure WfM (M : MS) : Prop where
  keys : (M.D.map ME.k).Nodup
  born : (M.D.map ME.b).Nodup
  past : ∀ e ∈ M.D, e.b < M.c
theorem mfind_i : ∀ {D : List ME} {a : Int} {i : Nat}, mfind D a i = (mfind D a 0).map fun p => (p.1 + i, p.2)
  | [], _, _ => rfl
  | e :: D, a, i => by
    unfold mfind
    split
    · simp
    · rw [mfind_i (i := i + 1), mfind_i (i := 0 + 1)]
      cases mfind D a 0 <;> simp; omega
theorem mfind_some : ∀ {D : List ME} {a : Int} {i : Nat} {v : Value}, mfind D a 0 = some (i, v) → ∃ h : i < D.length, D[i].k = a ∧ D[i].v = v
  | e :: D, a, i, v, h => by
    unfold mfind at h
    split at h
    · rename_i he
      simp only [Option.some.injEq, Prod.mk.injEq] at h
      obtain ⟨rfl, rfl⟩ := h
      exact ⟨by simp, he.symm, rfl⟩
    · rw [mfind_i] at h
      cases hm : mfind D a 0 with
      | none => rw [hm] at h; cases h
      | some p =>
        rw [hm] at h
        simp only [Option.map_some, Option.some.injEq, Prod.mk.injEq] at h
        obtain ⟨rfl, rfl⟩ := h
        obtain ⟨h1, h2, h3⟩ := mfind_some (D := D) (i := p.1) (v := p.2) hm
        exact ⟨by simp; omega, by simpa using h2, by simpa using h3⟩
theorem mfind_cons (e : ME) (D : List ME) (a : Int) (i : Nat) : mfind (e :: D) a i = if a = e.k then some (i, e.v) else mfind D a (i + 1) := rfl
theorem mfind_append : ∀ {D E : List ME} {a : Int}, mfind (D ++ E) a 0 = (mfind D a 0).or (mfind E a D.length)
  | [], E, a => by simp [mfind]
  | x :: D, E, a => by
    rw [List.cons_append, mfind_cons, mfind_cons]
    split
    · simp
    · rw [mfind_i, mfind_append, mfind_i (i := 0 + 1) (D := D)]
      have : mfind E a (x :: D).length = (mfind E a D.length).map fun p => (p.1 + 1, p.2) := by
        rw [mfind_i, mfind_i (i := D.length)]; cases mfind E a 0 <;> simp; omega
      rw [this]
      cases mfind D a 0 <;> simp
theorem mfind_modify : ∀ {D : List ME} {a c : Int} {i : Nat} {u v : Value}, mfind D a 0 = some (i, u) → mfind (D.modify i fun e => ⟨e.k, v, e.b⟩) c 0 = if a = c then some (i, v) else mfind D c 0
  | e :: D, a, c, i, u, v, h => by
    unfold mfind at h
    split at h
    · rename_i he
      simp only [Option.some.injEq, Prod.mk.injEq] at h
      obtain ⟨rfl, rfl⟩ := h
      subst he
      rw [List.modify_zero_cons]
      unfold mfind
      by_cases hc : e.k = c
      · rw [if_pos hc.symm, if_pos hc]
      · rw [if_neg (fun h => hc h.symm), if_neg hc, if_neg (fun h => hc h.symm)]
    · rename_i he
      rw [mfind_i] at h
      cases hm : mfind D a 0 with
      | none => rw [hm] at h; cases h
      | some p =>
        rw [hm] at h
        simp only [Option.map_some, Option.some.injEq, Prod.mk.injEq] at h
        obtain ⟨rfl, rfl⟩ := h
        rw [List.modify_succ_cons]
        have ih := mfind_modify (c := c) (v := v) (i := p.1) (u := p.2) hm
        unfold mfind
        by_cases hc : c = e.k
        · subst hc; rw [if_pos rfl, if_neg he, if_pos rfl]
        · rw [if_neg hc, if_neg hc, mfind_i, ih]
          split
          · simp
          · rw [mfind_i (i := 0 + 1)]
theorem MS.get_put {M : MS} {a c : Int} {v : Value} : (M.put a v).get c = if a = c then some v else M.get c := by
  unfold MS.put MS.get
  cases h : mfind M.D a 0 with
  | some p =>
    obtain ⟨i, u⟩ := p
    simp only []
    rw [mfind_modify h]
    split <;> rfl
  | none =>
    simp only []
    rw [mfind_append]
    by_cases hc : a = c
    · subst hc; rw [h, if_pos rfl]; simp [mfind]
    · rw [if_neg hc]
      have : mfind [(⟨a, v, M.c⟩ : ME)] c M.D.length = none := by simp [mfind, Ne.symm hc]
      rw [this, Option.or_none]
theorem MS.get_nil {c : Nat} {a : Int} : (⟨[], c⟩ : MS).get a = none := rfl
theorem findNow_e {ik : IntKind} {a : Int} : ∀ (D : List ME) (i : Nat), Instr.findNow (.int ik) (.int ik a) (D.map (ment ik)) i = some (mfind D a i)
  | [], i => rfl
  | e :: D, i => by
    simp only [List.map_cons, Instr.findNow, ment, Instr.sameNow, if_true]
    unfold mfind
    by_cases h : a = e.k
    · subst h; simp
    · have : (a == e.k) = false := by simpa using h
      rw [this, if_neg h]; exact findNow_e D (i + 1)
section
variable {P : Program} {w : World} {ik : IntKind} {kt : TypeId}
theorem run_findKey {D : List ME} {a : Int} (hk : P.underlying kt = some (.int ik)) : (Instr.findKey kt (.int ik a) (D.map (ment ik))).run P w = .ok (mfind D a 0) w := by
  unfold Instr.findKey
  rw [run_bind (run_und hk), findNow_e]; rfl
theorem run_checkKey {b : Bool} {a : Int} (hk : P.underlying kt = some (.int ik)) : (Instr.checkKey b 10000 kt (.int ik a)).run P w = .ok () w := by
  show (Instr.checkKey b (9999 + 1) kt (.int ik a)).run P w = _
  rw [Instr.checkKey, run_bind (run_und hk)]; rfl
theorem run_getMap {b : Nat} {M : MS} (h : w.heap[b]? = some (mpo ik M)) : (getObj b).run P w = .ok (mpo ik M) w := by
  simp [getObj, Sem.run, h, mpo]
theorem run_setMap {b : Nat} {M : MS} {o : Obj} (h : w.heap[b]? = some (mpo ik M)) : (setObj b o).run P w = .ok () { w with heap := w.heap.setIfInBounds b o } := by
  simp [setObj, Sem.run, h, mpo]
end
theorem set_heap {w : World} {b : Nat} {o o' : Obj} (h : w.heap[b]? = some o) (k : Nat) : ({ w with heap := w.heap.setIfInBounds b o' } : World).heap[k]? = if k = b then some o' else w.heap[k]? := by
  show (w.heap.setIfInBounds b o')[k]? = _
  rw [Array.getElem?_setIfInBounds]
  have hb : b < w.heap.size := by
    rcases Nat.lt_or_ge b w.heap.size with h1 | h1
    · exact h1
    · rw [Array.getElem?_eq_none h1] at h; cases h
  by_cases hk : b = k
  · subst hk; simp [hb]
  · rw [if_neg hk, if_neg (Ne.symm hk)]
section
variable {P : Program} {n : Nat} {ρ : Env} {A : SP} {dst : Option Tmp} {ty : TypeId} {pos : String} {after : Array Edge} {gd : Option (Nat × Bool)} {ik : IntKind} {kt et t : TypeId} {x y : Operand} {b : Nat} {M M' : MS} {a : Int} {A' : SP} {z : Value}
theorem o_makeMap (hu : P.underlying t = some (.map kt et)) : OpX P n ρ A ⟨dst, .makeMap t none, ty, pos, after, gd⟩ (fun v B => ∃ b, v = .map (some b) ∧ B = A * pt b (mpo ik ⟨[], 0⟩)) := fun g w hs => by
  refine ⟨_, w.alloc (mpo ik ⟨[], 0⟩), _, ?_, hs.alloc _, w.heap.size, rfl, rfl⟩
  simp only [execOp, Option.map_none]
  rw [run_bind (a := .map (some w.heap.size)) (w' := w.alloc (mpo ik ⟨[], 0⟩))]
  · rfl
  rfl
theorem o_lookup (hu : P.underlying t = some (.map kt et)) (hk : P.underlying kt = some (.int ik)) (hz : zeroE P et = some z) (hx : ev n ρ x = .map (some b)) (hy : ev n ρ y = .int ik a) (hh : Has A b (mpo ik M)) :
    OpV P n ρ A ⟨dst, .lookup t x y false, ty, pos, after, gd⟩ ((M.get a).getD z) := fun g w hs => by
  have h := hh g w hs
  simp only [execOp, hx, hy]
  rw [run_bind (a := (M.get a).getD z) (w' := w)]
  · rfl
  unfold Instr.lookup
  rw [run_bind (run_und hu)]
  simp only []
  rw [run_bind (run_getMap h)]
  simp only [mpo]
  rw [run_bind (a := (M.D.map (ment ik)).toArray) (w' := w) rfl, run_bind (run_checkKey hk), run_bind (run_findKey hk)]
  unfold MS.get
  cases mfind M.D a 0 with
  | none => simp only [Option.map_none, Option.getD_none]; rw [run_bind (run_zeroV hz)]; rfl
  | some p => rfl
theorem o_mapUpdate {v : Value} {u : Operand} (hu : P.underlying t = some (.map kt et)) (hk : P.underlying kt = some (.int ik)) (hx : ev n ρ x = .map (some b)) (hup : Upd A b (mpo ik M) (mpo ik M') A') (hy : ev n ρ y = .int ik a) (hv : ev n ρ u = v) (he : M.put a v = M') :
    OpU P n ρ A ⟨dst, .mapUpdate t x y u, ty, pos, after, gd⟩ A' := fun g w hs => by
  have h := hup.has g w hs
  refine ⟨{ w with heap := w.heap.setIfInBounds b (mpo ik M') }, ?_, hup.sat hs (set_heap h) rfl rfl rfl⟩
  simp only [execOp, hx, hy, hv]
  rw [run_bind (a := ()) (w' := { w with heap := w.heap.setIfInBounds b (mpo ik M') })]
  · rfl
  unfold Instr.mapUpdate
  rw [run_bind (run_und hu)]
  simp only []
  rw [run_bind (run_getMap h)]
  simp only [mpo]
  rw [run_bind (run_checkKey hk), run_bind (run_findKey hk)]
  subst he
  unfold MS.put
  cases hf : mfind M.D a 0 with
  | none =>
    simp only []
    rw [run_setMap h]
    simp [mpo, ment]
  | some p =>
    obtain ⟨i, u0⟩ := p
    obtain ⟨hi, h1, _⟩ := mfind_some hf
    simp only []
    have hkk : ((((M.D.map (ment ik)).toArray[i]?).map (·.key)).getD (.int ik a)) = .int ik a := by simp [hi, ment, h1]
    rw [hkk, run_bind (a := .int ik a) (w' := w)]
    · rw [run_setMap h]
      congr 3
      simp only [mpo, Obj.map.injEq, and_true]
      apply Array.ext'
      simp only [Array.toList_modify, List.toList_toArray]
      apply List.ext_getElem?
      intro j
      simp only [List.getElem?_modify, List.getElem?_map]
      by_cases hj : i = j
      · subst hj; rw [List.getElem?_eq_getElem hi]; simp [ment, h1]
      · simp only [if_neg hj]
        cases M.D[j]? <;> simp
    · unfold Instr.keyThatStays
      have : Instr.sameBits 10000 (.int ik a) (.int ik a) = true := by simp [Instr.sameBits]
      rw [if_pos this]; rfl
end
end Go.Vl

set_option linter.unusedVariables false
set_option linter.unusedSimpArgs false
namespace Go.Vl
open Go Go.Proofs
/-! ### Structs of ints of any kinds that are held against each other -/
def intK (P : Program) (f : Field) (k : IntKind) : Bool := f.name != "_" && plainE P f.type && (match P.underlying f.type with | some (.int j) => j == k | _ => false)
def zk (ks : List IntKind) (l : List Int) : List Value := List.zipWith Value.int ks l
def flatK (P : Program) (fs : Array Field) (ks : List IntKind) : Bool := ((fs.toList.map fun f => f.offset) == List.range ks.length) && fs.toList.all fun f => intK P f (ks.getD f.offset .i64)
theorem zk_at {ks : List IntKind} {l : List Int} (h : l.length = ks.length) {i : Nat} (hi : i < ks.length) : (zk ks l)[i]? = some (.int (ks.getD i .i64) (l[i]?.getD 0)) := by
  unfold zk
  rw [List.getElem?_zipWith, List.getElem?_eq_getElem hi, List.getElem?_eq_getElem (show i < l.length by omega)]
  simp [List.getD, hi]
theorem eqzk_run {P : Program} {t : TypeId} {fs : Array Field} {w : World} {ks : List IntKind} (hu : P.underlying t = some (.struct fs)) (hst : P.stoodInHeld t = false) (hf : flatK P fs ks = true) (l m : List Int) (hl : l.length = ks.length) (hm : m.length = ks.length) :
    (Op.equal t (.agg (zk ks l).toArray) (.agg (zk ks m).toArray)).run P w = .ok (decide (l = m)) w := by
  show (Op.equalIn (9999 + 1) t _ _).run P w = _
  unfold flatK at hf
  rw [Bool.and_eq_true, beq_iff_eq] at hf
  obtain ⟨ho, hall⟩ := hf
  have hlt : ∀ f ∈ fs.toList, f.offset < ks.length := fun f hf => by
    have : f.offset ∈ fs.toList.map (fun f => f.offset) := List.mem_map_of_mem hf
    rw [ho] at this; simpa using this
  rw [Op.equalIn, run_bind (run_und hu)]
  simp only []
  rw [run_bind (w' := w) (a := P) (by rfl), if_neg (by rw [hst]; decide)]
  have hpart : ∀ (f : Field), f ∈ fs.toList → ∀ (zs : List Int), zs.length = ks.length → (part f.type (zk ks zs).toArray f.offset).run P w = .ok (.int (ks.getD f.offset .i64) (zs[f.offset]?.getD 0)) w := fun f hf zs hz => by
    have h := hlt f hf
    have hp : plainE P f.type = true := by have := List.all_eq_true.1 hall f hf; simp [intK] at this; exact this.1.2
    unfold part
    rw [run_bind (run_isAgg_f hp)]
    have hz2 := zk_at hz h
    have hz3 : (zk ks zs).toArray[f.offset]? = some (.int (ks.getD f.offset .i64) (zs[f.offset]?.getD 0)) := by simpa using hz2
    simp [hz3, pure]
  have heq : ∀ (f : Field), f ∈ fs.toList → ∀ (a b : Int), (Op.equalIn 9999 f.type (.int (ks.getD f.offset .i64) a) (.int (ks.getD f.offset .i64) b)).run P w = .ok (a == b) w := fun f hf a b => by
    have := List.all_eq_true.1 hall f hf
    simp only [intK, Bool.and_eq_true] at this
    obtain ⟨_, h2⟩ := this
    show (Op.equalIn (9998 + 1) f.type _ _).run P w = _
    cases hq : P.underlying f.type with
    | none => simp [hq] at h2
    | some d =>
      rw [hq] at h2
      cases d <;> simp at h2
      rw [Op.equalIn, run_bind (run_und hq)]; simp [pure]
  have hname : ∀ f ∈ fs.toList, f.name ≠ "_" := fun f hf => by have := List.all_eq_true.1 hall f hf; simp [intK] at this; exact this.1.1
  rw [← Array.forIn_toList]
  have hall' := run_all (P := P) (w := w) (fun (f : Field) __s => 
      if f.name ≠ "_" then do
        let a ← part f.type (zk ks l).toArray f.offset
        let b ← part f.type (zk ks m).toArray f.offset
        let c ← Op.equalIn 9999 f.type a b
        if (!c) = true then pure (ForInStep.done (some false, ())) else pure (ForInStep.yield (none, ()))
      else pure (ForInStep.yield (none, ()))) (fun f => l[f.offset]? == m[f.offset]?) fs.toList (fun f hf => by
    rw [if_pos (hname f hf), run_bind (hpart f hf l hl), run_bind (hpart f hf m hm), run_bind (heq f hf _ _)]
    have h := hlt f hf
    have h1 : l[f.offset]? = some (l[f.offset]'(by omega)) := List.getElem?_eq_getElem _
    have h2 : m[f.offset]? = some (m[f.offset]'(by omega)) := List.getElem?_eq_getElem _
    rw [h1, h2]
    by_cases hc : (l[f.offset]'(by omega)) = (m[f.offset]'(by omega)) <;> simp [hc, pure])
  rw [run_bind hall']
  have e : (fs.toList.all fun f => l[f.offset]? == m[f.offset]?) = decide (l = m) := by
    rw [← range_eq (xs := []) (ys := []) hl hm, ← ho, List.all_map]; rfl
  rw [e]
  by_cases h : l = m <;> simp [h, pure]
def Mk.ns (m : Mk) : List Int := [(m.id : Int), m.at_, (m.gr : Int)]
def mkk : List IntKind := [.u32, .i64, .u8]
theorem mk_ns {x y : Mk} : decide (x.ns = y.ns) = decide (x = y) := by
  rw [decide_eq_decide]
  constructor
  · intro h
    cases x; cases y
    simp only [Mk.ns, List.cons.injEq, and_true] at h
    simp only [Mk.mk.injEq]; omega
  · rintro rfl; rfl
section
variable {n : Nat} {ρ : Env} {A : SP} {dst : Option Tmp} {ty : TypeId} {pos : String} {after : Array Edge} {gd : Option (Nat × Bool)}
theorem o_eqMk {t' : TypeId} {x y : Operand} {a b : Mk} (hx : ev n ρ x = .agg a.cells.toArray) (hy : ev n ρ y = .agg b.cells.toArray) :
    OpV Try.prog n ρ A ⟨dst, .binOp .eql 35 x y t', ty, pos, after, gd⟩ (.bool (decide (a = b))) := opv_of fun w => by
  simp only [execOp, hx, hy]
  rw [run_bind (w' := w) (a := .bool (decide (a = b)))]
  · rfl
  rw [run_bind (w' := w) (a := ())]
  · show (do pure (Value.bool (← Op.equal 35 (.agg (zk mkk a.ns).toArray) (.agg (zk mkk b.ns).toArray))) : Sem Value).run Try.prog w = _
    rw [run_bind (eqzk_run Try.underlying35 (by kernel_rfl) (by kernel_rfl) a.ns b.ns rfl rfl), mk_ns]; rfl
  · have hge : Try.prog.eqGuardType Try.prog.depth 35 = false := by kernel_rfl
    simp [eqGuard, hge, program, bind, Sem.bind, Sem.run, pure]
theorem o_neMk {t' : TypeId} {x y : Operand} {a b : Mk} (hx : ev n ρ x = .agg a.cells.toArray) (hy : ev n ρ y = .agg b.cells.toArray) :
    OpV Try.prog n ρ A ⟨dst, .binOp .neq 35 x y t', ty, pos, after, gd⟩ (.bool (!decide (a = b))) := opv_of fun w => by
  simp only [execOp, hx, hy]
  rw [run_bind (w' := w) (a := .bool (!decide (a = b)))]
  · rfl
  rw [run_bind (w' := w) (a := ())]
  · show (do pure (Value.bool (!(← Op.equal 35 (.agg (zk mkk a.ns).toArray) (.agg (zk mkk b.ns).toArray)))) : Sem Value).run Try.prog w = _
    rw [run_bind (eqzk_run Try.underlying35 (by kernel_rfl) (by kernel_rfl) a.ns b.ns rfl rfl), mk_ns]; rfl
  · have hge : Try.prog.eqGuardType Try.prog.depth 35 = false := by kernel_rfl
    simp [eqGuard, hge, program, bind, Sem.bind, Sem.run, pure]
end
attribute [local irreducible] Sl pt ro
theorem CloneMN_f {A : SP} {n c : Nat} :
    Fn Try.prog 55 #[.slice none n c] (A) (fun r B => r = .slice none 0 0 ∧ A = B) := by
  refine fn_enterW (args := [.slice none n c]) Try.func55 rfl Try.ntmps55 (by simp) ?_; refine sr ?_; refine tla ?_; refine nq ?_; refine tc_seq ?_; refine sr ?_; refine tlm ?_; refine tv (o_eqs Try.underlying22 rfl rfl) ?_; refine nq ?_; refine tc_cond rfl (fun h => ?_) (fun h => ?_)
  · try simp only [lv1, lv2, lv3, lv4, lv5, lv6, Bool.not_true, Bool.not_false] at h
    refine sr ?_; refine tla ?_; refine nq ?_; refine tc_ret ?_; refine q_then_r ?_; exact ⟨_, _, res1 rfl rfl, fun _ _ h => h, rfl, rfl⟩
  · (exfalso; first | (revert h; simp; done) | (simp at h; done) | (revert h; simp; omega) | (simp at h; omega) | omega)
theorem CloneMS_f {A : SP} {n c : Nat} {p : Addr} {xs : List Value} (hr : Rs A (some p) xs) (hl : xs.length = n * 3) (ho : xs.all oneC = true) (hs : n ≤ 5864062014800) :
    Fn Try.prog 55 #[.slice (some p) n c] (A) (fun r B => ∃ a2 c2, r = .slice a2 n c2 ∧ n ≤ c2 ∧ B = A * Sl 3 (.slice a2 n c2) n xs) := by
  refine fn_enterW (args := [.slice (some p) n c]) Try.func55 rfl Try.ntmps55 (by simp) ?_; refine sr ?_; refine tla ?_; refine nq ?_; refine tc_seq ?_; refine sr ?_; refine tlm ?_; refine tv (o_eqs Try.underlying22 rfl rfl) ?_; refine nq ?_; refine tc_cond rfl (fun h => ?_) (fun h => ?_)
  · exfalso; simp at h
  · try simp only [lv1, lv2, lv3, lv4, lv5, lv6, Bool.not_true, Bool.not_false] at h
    refine tc_skip ?_; refine q_then_n ?_; refine tc_seq ?_
    skip
    refine tc_reg ?_; refine tl_x rfl (o_buildSlice0 Try.underlying22 sz35 rfl) ?_; rintro _ _ ⟨b5, rfl, rfl⟩; refine tl_pre (A' := A * Sl 3 (.slice (some ⟨b5, 0, none⟩) 0 0) 0 []) (fun _ _ h => sl_new h (Nat.le_refl _) (by simp) (by simp)) ?_; refine tlm ?_; refine tl_x rfl (o_apR Try.underlying22 Try.underlying22 sz35 by35 z35 rfl (by decide) (by decide) rfl rfl (by repeat (first | with_reducible exact ct_here | apply ct_left)) (hr.left) hl ho (by omega) (List.nil_append _)) ?_; rintro _ _ ⟨a7, c7, rfl, hc7, rfl⟩; refine tla ?_; refine nq ?_; refine tc_ret ?_; exact ⟨.slice a7 (0 + n) c7, A * Sl 3 (.slice a7 (0 + n) c7) (0 + n) xs, res1 rfl rfl, fun _ _ h => h, a7, c7, by rw [Nat.zero_add], by rw [Nat.zero_add] at hc7; exact hc7, by rw [Nat.zero_add]⟩
theorem CloneM_c {A : SP} {a : Option Addr} {n c : Nat} {l : List Mk} (hr : Rs A a (mcs l) := by repeat (first | assumption | with_reducible exact rs_sl | with_reducible exact rs_pt0 | exact rs_none | apply Rs.left)) (hm : l.length = n := by first | assumption | rfl) (hs : n ≤ 5864062014800 := by omega) :
    Fn Try.prog 55 #[.slice a n c] A (fun r B => ∃ a2 c2, r = .slice a2 n c2 ∧ n ≤ c2 ∧ B = A * Sl 3 (.slice a2 n c2) n (mcs l)) := by
  have hl : (mcs l).length = n * 3 := by rw [mcs_len, hm]
  cases a with
  | none =>
    intro g w hs2
    have hx : mcs l = [] := by
      rcases hr.rd hs2 with h | ⟨b, o, e, _⟩
      · exact h
      · cases e
    have hn : n = 0 := by rw [hx] at hl; simp at hl; omega
    subst hn
    rw [hx]
    refine (CloneMN_f (n := 0) (c := c) g w hs2).mono ?_; rintro e w' ⟨v, B, rfl, ⟨rfl, rfl⟩, hB⟩; exact ⟨_, _, rfl, ⟨none, 0, rfl, Nat.le_refl _, rfl⟩, sl_nil hB⟩
  | some p => exact CloneMS_f hr hl (mcs_oneC l) hs
/-- By number. -/
def cId (x y : Mk) : Int := if x.id < y.id then -1 else if y.id < x.id then 1 else 0
/-- By place, then by number. -/
def cPl (x y : Mk) : Int := if x.at_ < y.at_ then -1 else if y.at_ < x.at_ then 1 else cId x y
theorem cId_neg {x y : Mk} : ltc cId x y = decide (x.id < y.id) := by
  unfold ltc cId; rw [decide_eq_decide]; split
  · simp [*]
  · split <;> simp [*]
theorem cId_swo : SWO (ltc cId) := ⟨fun a b h => by rw [cId_neg] at *; simp at *; omega, fun a b c h1 h2 => by rw [cId_neg] at *; simp at *; omega⟩
theorem cPl_neg {x y : Mk} : ltc cPl x y = decide (x.at_ < y.at_ ∨ x.at_ = y.at_ ∧ x.id < y.id) := by
  unfold ltc cPl; rw [decide_eq_decide]
  split
  · constructor
    · intro _; omega
    · intro _; omega
  · split
    · constructor
      · intro h; omega
      · intro h; omega
    · have := cId_neg (x := x) (y := y)
      unfold ltc at this; rw [decide_eq_decide] at this
      rw [this]; omega
theorem cPl_swo : SWO (ltc cPl) := ⟨fun a b h => by rw [cPl_neg] at *; simp at *; omega, fun a b c h1 h2 => by rw [cPl_neg] at *; simp at *; omega⟩
theorem nanU_c {A : SP} {k : IntKind} {x : Int} :
    Fn Try.prog 70 #[.int k x] (A) (fun r B => r = .bool false ∧ A = B) := by
  refine fn_enterW (args := [.int k x]) Try.func70 rfl Try.ntmps70 (by simp) ?_; refine sr ?_; refine tla ?_; refine nq ?_; refine sr ?_; refine tlm ?_; refine tlm ?_; refine tv (o_nei rfl rfl) ?_; refine tla ?_; refine nq ?_; refine tc_ret ?_; exact ⟨.bool false, A, res1 rfl (by show Value.bool (decide (x ≠ x)) = _; simp), fun _ _ h => h, rfl, rfl⟩
theorem nanI_c {A : SP} {k : IntKind} {x : Int} :
    Fn Try.prog 71 #[.int k x] (A) (fun r B => r = .bool false ∧ A = B) := by
  refine fn_enterW (args := [.int k x]) Try.func71 rfl Try.ntmps71 (by simp) ?_; refine sr ?_; refine tla ?_; refine nq ?_; refine sr ?_; refine tlm ?_; refine tlm ?_; refine tv (o_nei rfl rfl) ?_; refine tla ?_; refine nq ?_; refine tc_ret ?_; exact ⟨.bool false, A, res1 rfl (by show Value.bool (decide (x ≠ x)) = _; simp), fun _ _ h => h, rfl, rfl⟩
theorem cmpU_c {A : SP} {x y : Int} :
    Fn Try.prog 57 #[.int .u32 x, .int .u32 y] (A) (fun r B => r = .int .i64 (if x < y then -1 else if y < x then 1 else 0) ∧ A = B) := by
  refine fn_enterW (args := [.int .u32 x, .int .u32 y]) Try.func57 rfl Try.ntmps57 (by simp) ?_; refine sr ?_; refine tla ?_; refine nq ?_; refine sr ?_; refine tlm ?_; refine tl_c rfl (o_call bd70 rfl (nanU_c)) ?_; rintro _ _ ⟨rfl, rfl⟩; refine tla ?_; refine nq ?_; refine sr ?_; refine tlm ?_; refine tl_c rfl (o_call bd70 rfl (nanU_c)) ?_; rintro _ _ ⟨rfl, rfl⟩; refine tla ?_; refine nq ?_; refine tc_seq ?_; refine sr ?_; refine tlm ?_; refine nq ?_; refine tc_cond rfl (fun h => ?_) (fun h => ?_)
  · (exfalso; first | (revert h; simp; done) | (simp at h; done) | (revert h; simp; omega) | (simp at h; omega) | omega)
  · try simp only [lv1, lv2, lv3, lv4, lv5, lv6, Bool.not_true, Bool.not_false] at h
    refine tc_skip ?_; refine q_then_n ?_; refine tc_seq ?_; refine sr ?_; refine tlm ?_; refine nq ?_; refine tc_cond rfl (fun h => ?_) (fun h => ?_)
    · (exfalso; first | (revert h; simp; done) | (simp at h; done) | (revert h; simp; omega) | (simp at h; omega) | omega)
    · try simp only [lv1, lv2, lv3, lv4, lv5, lv6, Bool.not_true, Bool.not_false] at h
      refine tc_skip ?_; refine q_then_n ?_; refine tc_seq ?_; refine sr ?_; refine tlm ?_; refine tlm ?_; refine tv (o_lss rfl rfl) ?_; refine nq ?_; refine tc_cond rfl (fun h => ?_) (fun h => ?_)
      · have h1 : x < y := by first | exact of_decide_eq_true h | exact h
        refine sr ?_; refine tla ?_; refine nq ?_; refine tc_ret ?_; refine q_then_r ?_; exact ⟨.int .i64 (-1), A, res1 rfl rfl, fun _ _ h => h, by rw [if_pos h1], rfl⟩
      · have h1 : ¬ x < y := by first | exact of_decide_eq_false h | exact h
        refine tc_skip ?_; refine q_then_n ?_; refine tc_seq ?_; refine sr ?_; refine tlm ?_; refine tlm ?_; refine tv (o_gtr rfl rfl) ?_; refine nq ?_; refine tc_cond rfl (fun h => ?_) (fun h => ?_)
        · have h2 : y < x := by first | exact of_decide_eq_true h | exact h
          refine sr ?_; refine tla ?_; refine nq ?_; refine tc_ret ?_; refine q_then_r ?_; exact ⟨.int .i64 1, A, res1 rfl rfl, fun _ _ h => h, by rw [if_neg h1, if_pos h2], rfl⟩
        · have h2 : ¬ y < x := by first | exact of_decide_eq_false h | exact h
          refine tc_skip ?_; refine q_then_n ?_; refine sr ?_; refine tla ?_; refine nq ?_; refine tc_ret ?_; exact ⟨.int .i64 0, A, res1 rfl rfl, fun _ _ h => h, by rw [if_neg h1, if_neg h2], rfl⟩
theorem cmpI_c {A : SP} {x y : Int} :
    Fn Try.prog 63 #[.int .i64 x, .int .i64 y] (A) (fun r B => r = .int .i64 (if x < y then -1 else if y < x then 1 else 0) ∧ A = B) := by
  refine fn_enterW (args := [.int .i64 x, .int .i64 y]) Try.func63 rfl Try.ntmps63 (by simp) ?_; refine sr ?_; refine tla ?_; refine nq ?_; refine sr ?_; refine tlm ?_; refine tl_c rfl (o_call bd71 rfl (nanI_c)) ?_; rintro _ _ ⟨rfl, rfl⟩; refine tla ?_; refine nq ?_; refine sr ?_; refine tlm ?_; refine tl_c rfl (o_call bd71 rfl (nanI_c)) ?_; rintro _ _ ⟨rfl, rfl⟩; refine tla ?_; refine nq ?_; refine tc_seq ?_; refine sr ?_; refine tlm ?_; refine nq ?_; refine tc_cond rfl (fun h => ?_) (fun h => ?_)
  · (exfalso; first | (revert h; simp; done) | (simp at h; done) | (revert h; simp; omega) | (simp at h; omega) | omega)
  · try simp only [lv1, lv2, lv3, lv4, lv5, lv6, Bool.not_true, Bool.not_false] at h
    refine tc_skip ?_; refine q_then_n ?_; refine tc_seq ?_; refine sr ?_; refine tlm ?_; refine nq ?_; refine tc_cond rfl (fun h => ?_) (fun h => ?_)
    · (exfalso; first | (revert h; simp; done) | (simp at h; done) | (revert h; simp; omega) | (simp at h; omega) | omega)
    · try simp only [lv1, lv2, lv3, lv4, lv5, lv6, Bool.not_true, Bool.not_false] at h
      refine tc_skip ?_; refine q_then_n ?_; refine tc_seq ?_; refine sr ?_; refine tlm ?_; refine tlm ?_; refine tv (o_lss rfl rfl) ?_; refine nq ?_; refine tc_cond rfl (fun h => ?_) (fun h => ?_)
      · have h1 : x < y := by first | exact of_decide_eq_true h | exact h
        refine sr ?_; refine tla ?_; refine nq ?_; refine tc_ret ?_; refine q_then_r ?_; exact ⟨.int .i64 (-1), A, res1 rfl rfl, fun _ _ h => h, by rw [if_pos h1], rfl⟩
      · have h1 : ¬ x < y := by first | exact of_decide_eq_false h | exact h
        refine tc_skip ?_; refine q_then_n ?_; refine tc_seq ?_; refine sr ?_; refine tlm ?_; refine tlm ?_; refine tv (o_gtr rfl rfl) ?_; refine nq ?_; refine tc_cond rfl (fun h => ?_) (fun h => ?_)
        · have h2 : y < x := by first | exact of_decide_eq_true h | exact h
          refine sr ?_; refine tla ?_; refine nq ?_; refine tc_ret ?_; refine q_then_r ?_; exact ⟨.int .i64 1, A, res1 rfl rfl, fun _ _ h => h, by rw [if_neg h1, if_pos h2], rfl⟩
        · have h2 : ¬ y < x := by first | exact of_decide_eq_false h | exact h
          refine tc_skip ?_; refine q_then_n ?_; refine sr ?_; refine tla ?_; refine nq ?_; refine tc_ret ?_; exact ⟨.int .i64 0, A, res1 rfl rfl, fun _ _ h => h, by rw [if_neg h1, if_neg h2], rfl⟩
theorem byId_c {A : SP} {x y : Mk} :
    Fn Try.prog 34 #[.agg x.cells.toArray, .agg y.cells.toArray] (A) (fun r B => r = .int .i64 (cId x y) ∧ A = B) := by
  refine fn_enterW (args := [.agg x.cells.toArray, .agg y.cells.toArray]) Try.func34 rfl Try.ntmps34 (by simp) ?_; refine sr ?_; refine tl_x rfl (o_box rfl rfl) ?_; rintro _ _ ⟨b2, rfl, rfl⟩; refine tl_x rfl (o_box rfl rfl) ?_; rintro _ _ ⟨b3, rfl, rfl⟩; refine tla ?_; refine nq ?_; refine sr ?_; refine tv (o_fieldAddr (o := 0) Try.underlying35 rfl rfl sz33 rfl) ?_; refine tv (by first | exact o_load p33 rfl (by repeat (first | with_reducible exact has_here | with_reducible exact has_pt | apply has_left)) rfl | exact o_loadC p33 rfl (by assumption)) ?_; refine tv (o_fieldAddr (o := 0) Try.underlying35 rfl rfl sz33 rfl) ?_; refine tv (by first | exact o_load p33 rfl (by repeat (first | with_reducible exact has_here | with_reducible exact has_pt | apply has_left)) rfl | exact o_loadC p33 rfl (by assumption)) ?_; refine tl_c rfl (o_call bd57 rfl (cmpU_c (x := (x.id : Int)) (y := (y.id : Int)))) ?_; rintro _ _ ⟨rfl, rfl⟩; refine tla ?_; refine nq ?_; refine tc_ret ?_; exact ⟨.int .i64 (cId x y), A, res1 rfl (by unfold cId; simp only [← Int.ofNat_lt]; rfl), Dr.sat (by repeat (first | with_reducible exact dr_refl | apply dr_keep | apply dr_drop)), rfl, rfl⟩
theorem or_c {A : SP} {a : Option Addr} {c : Nat} {x y : Int} (hr : Rs A a (ints [x, y])) :
    Fn Try.prog 62 #[.slice a 2 c] (A) (fun r B => r = .int .i64 (if x = 0 then y else x) ∧ A = B) := by
  refine fn_enterW (args := [.slice a 2 c]) Try.func62 rfl Try.ntmps62 (by simp) ?_; refine sr ?_; refine tla ?_; refine nq ?_; refine sr ?_; refine tla ?_; refine nq ?_; refine tc_seq ?_; refine sr ?_; refine tlm ?_; refine tv (o_len Try.underlying99 rfl) ?_; refine tlm ?_; refine nq ?_; refine tc_block ?_; refine tc_loop (fun kk ρ BB => ∃ (i : Nat), (i ≤ 2) ∧ (1 ≤ i → x = 0) ∧ (2 ≤ i → y = 0) ∧ kk = 2 - i ∧ ρ 8 = .int .i64 (i : Nat) ∧ ρ 3 = .int .i64 0 ∧ ρ 6 = .slice a 2 c ∧ ρ 7 = .int .i64 2 ∧ BB = A) (m := 2 - (0)) ?_ ?_
  · exact ⟨0, by omega, fun h => by omega, fun h => by omega, rfl, rfl, rfl, rfl, rfl, rfl⟩
  · intro k ρ B hI
    obtain ⟨i, hp0, hp1, hp2, hkk1, hE8, hE3, hE6, hE7, hBA⟩ := hI
    obtain rfl := hBA.symm
    refine tc_env (d := 8) hE8 ?_; refine tc_env (d := 3) hE3 ?_; refine tc_env (d := 6) hE6 ?_; refine tc_env (d := 7) hE7 ?_
    clear hE8 hE3 hE6 hE7
    refine sr ?_; refine tv (o_lss rfl rfl) ?_; refine nq ?_; refine tc_seq ?_; refine tc_cond rfl (fun h => ?_) (fun h => ?_)
    · have hi : i < 2 := by simp at h; omega
      obtain ⟨z, hz, hz2⟩ : ∃ z : Int, (ints [x, y])[i]? = some (.int .i64 z) ∧ ((i = 0 ∧ z = x) ∨ (i = 1 ∧ z = y)) := by
        match i, hi with
        | 0, _ => exact ⟨x, rfl, .inl ⟨rfl, rfl⟩⟩
        | 1, _ => exact ⟨y, rfl, .inr ⟨rfl, rfl⟩⟩
      refine tc_skip ?_; refine q_then_n ?_; refine tc_seq ?_; refine tc_block ?_; refine sr ?_; refine tv (o_ixP1 Try.underlying99 sz3 rfl rfl (by omega) (nn_rs hr (fun _ => by simp [ints]))) ?_; refine tv (o_ldP p3 rfl hr hz) ?_; refine tla ?_; refine nq ?_; refine sr ?_; refine tlm ?_; refine tlm ?_; refine tv (o_nei rfl rfl) ?_; refine nq ?_; refine tc_cond rfl (fun h => ?_) (fun h => ?_)
      · have hne : z ≠ 0 := by first | simpa using h | exact h
        refine sr ?_; refine tlm ?_; refine tla ?_; refine nq ?_; refine tc_ret ?_; refine q_block_r (q_then_r (q_then_r (q_block_r (q_then_r ?_)))); exact ⟨.int .i64 z, A, res1 rfl rfl, fun _ _ h => h, by congr 1; split <;> omega, rfl⟩
      · have hne : z = 0 := by first | simpa using h | exact h
        refine tc_skip ?_; refine q_block_n (q_then_n ?_); refine tc_reg ?_; refine tv (by first | exact o_addI rfl rfl (by omega) | exact o_add rfl rfl) ?_; refine tlm ?_; refine nq ?_; exact ⟨_, by omega, i + 1, by omega, by intro _; omega, by intro _; omega, rfl, rfl, rfl, rfl, rfl, rfl⟩
    · try simp only [lv1, lv2, lv3, lv4, lv5, lv6, Bool.not_true, Bool.not_false] at h
      refine tc_exit ?_; refine q_then_e (q_then_e (q_block_x (q_then_n ?_))); refine sr ?_; refine tlm ?_; refine tla ?_; refine nq ?_; refine tc_ret ?_
      have hi : i = 2 := by simp at h; omega
      exact ⟨.int .i64 0, A, res1 rfl rfl, fun _ _ h => h, by congr 1; split <;> omega, rfl⟩
theorem byPlace_c {A : SP} {x y : Mk} :
    Fn Try.prog 44 #[.agg x.cells.toArray, .agg y.cells.toArray] (A) (fun r B => r = .int .i64 (cPl x y) ∧ A = B) := by
  refine fn_enterW (args := [.agg x.cells.toArray, .agg y.cells.toArray]) Try.func44 rfl Try.ntmps44 (by simp) ?_; refine sr ?_; refine tl_x rfl (o_box rfl rfl) ?_; rintro _ _ ⟨b2, rfl, rfl⟩; refine tl_x rfl (o_box rfl rfl) ?_; rintro _ _ ⟨b3, rfl, rfl⟩; refine tla ?_; refine nq ?_; refine tc_seq ?_; refine tc_regh (S := A * pt b2 (cl x.cells 35) * pt b3 (cl y.cells 35)) mo (by repeat (first | with_reducible exact dr_refl | apply dr_keep | apply dr_drop)) ?_
  show TH _ _ _ _ _ 11 #[ff,ff,ff,ff,ff,ff,ff,ff,ff,ff,ff] _ _
  refine th_take (i := 0) (listed' := #[tt,ff,ff,ff,ff,ff,ff,ff,ff,ff,ff]) rfl (by kernel_rfl) (by kernel_rfl) (by kernel_rfl) rfl rfl (o_fieldAddr (o := 1) Try.underlying35 rfl rfl sz3 rfl) ?_; refine th_take (i := 1) (listed' := #[tt,tt,ff,ff,ff,ff,ff,ff,ff,ff,ff]) rfl (by kernel_rfl) (by kernel_rfl) (by kernel_rfl) rfl rfl (by first | exact o_load p3 rfl (by repeat (first | with_reducible exact has_here | with_reducible exact has_pt | apply has_left)) rfl | exact o_loadC p3 rfl (by assumption)) ?_; refine th_take (i := 2) (listed' := #[tt,tt,tt,ff,ff,ff,ff,ff,ff,ff,ff]) rfl (by kernel_rfl) (by kernel_rfl) (by kernel_rfl) rfl rfl (o_fieldAddr (o := 1) Try.underlying35 rfl rfl sz3 rfl) ?_; refine th_take (i := 3) (listed' := #[tt,tt,tt,tt,ff,ff,ff,ff,ff,ff,ff]) rfl (by kernel_rfl) (by kernel_rfl) (by kernel_rfl) rfl rfl (by first | exact o_load p3 rfl (by repeat (first | with_reducible exact has_here | with_reducible exact has_pt | apply has_left)) rfl | exact o_loadC p3 rfl (by assumption)) ?_; refine th_take (i := 5) (listed' := #[tt,tt,tt,tt,ff,tt,ff,ff,ff,ff,ff]) rfl (by kernel_rfl) (by kernel_rfl) (by kernel_rfl) rfl rfl (o_loadN (vs := x.cells) a35 sz35 rfl (by repeat (first | with_reducible exact has_here | with_reducible exact has_pt | apply has_left)) (by show 3 ≤ 3; decide) rfl) ?_; refine th_take (i := 6) (listed' := #[tt,tt,tt,tt,ff,tt,tt,ff,ff,ff,ff]) rfl (by kernel_rfl) (by kernel_rfl) (by kernel_rfl) rfl rfl (o_loadN (vs := y.cells) a35 sz35 rfl (by repeat (first | with_reducible exact has_here | with_reducible exact has_pt | apply has_left)) (by show 3 ≤ 3; decide) rfl) ?_
  refine th_one (i := 4) (by kernel_rfl) ?_; refine oh_c (i := 4) (listed' := #[tt,tt,tt,tt,tt,tt,tt,ff,ff,ff,ff]) rfl rfl rfl (o_call bd63 rfl (cmpI_c (x := x.at_) (y := y.at_))) ?_; rintro _ _ ⟨rfl, rfl⟩; refine ⟨by repeat (first | with_reducible exact dr_refl | apply dr_keep | apply dr_drop), ?_⟩; refine th_one (i := 7) (by kernel_rfl) ?_; refine oh_c (i := 7) (listed' := #[tt,tt,tt,tt,tt,tt,tt,tt,ff,ff,ff]) rfl rfl rfl (o_call bd34 rfl (byId_c (x := x) (y := y))) ?_; rintro _ _ ⟨rfl, rfl⟩; refine ⟨by repeat (first | with_reducible exact dr_refl | apply dr_keep | apply dr_drop), ?_⟩; refine th_one (i := 8) (by kernel_rfl) ?_; refine oh_x (i := 8) (listed' := #[tt,tt,tt,tt,tt,tt,tt,tt,tt,ff,ff]) rfl rfl rfl (o_buildSliceL (k := 1) (vs := ints [(if x.at_ < y.at_ then -1 else if y.at_ < x.at_ then 1 else 0), cId x y]) (l := ints [(if x.at_ < y.at_ then -1 else if y.at_ < x.at_ then 1 else 0), cId x y]) Try.underlying99 sz3 z3 rfl rfl (by decide) (by decide) (by intro v hv; simp only [ints, i64, List.map_cons, List.map_nil, List.mem_cons, List.not_mem_nil, or_false] at hv; rcases hv with rfl | rfl <;> rfl) rfl) ?_; rintro _ _ ⟨b13, rfl, rfl⟩; refine ⟨by repeat (first | with_reducible exact dr_refl | apply dr_keep | apply dr_drop), ?_⟩; refine th_one (i := 9) (by kernel_rfl) ?_; refine oh_c (i := 9) (listed' := #[tt,tt,tt,tt,tt,tt,tt,tt,tt,tt,ff]) rfl rfl rfl (o_call bd62 rfl (or_c (x := (if x.at_ < y.at_ then -1 else if y.at_ < x.at_ then 1 else 0)) (y := cId x y) (hr := rs_pt0))) ?_
  rintro _ _ ⟨rfl, rfl⟩; refine ⟨by repeat (first | with_reducible exact dr_refl | apply dr_keep | apply dr_drop), ?_⟩; refine th_take (i := 10) (listed' := #[tt,tt,tt,tt,tt,tt,tt,tt,tt,tt,tt]) rfl (by kernel_rfl) (by kernel_rfl) (by kernel_rfl) rfl rfl (o_assign (by conv => lhs; whnf)) ?_; refine th_done (by kernel_rfl) ?_; refine q_then_n ?_; refine tc_ret ?_; exact ⟨.int .i64 (cPl x y), A, res1 rfl (by show Value.int .i64 _ = _; congr 1; unfold cPl; split <;> first | rfl | (split <;> rfl)), Dr.sat (by repeat (first | with_reducible exact dr_refl | apply dr_keep | apply dr_drop)), rfl, rfl⟩
theorem ordId : OrdF 34 cId := ⟨bd34, fun A x y => byId_c⟩
theorem ordPl : OrdF 44 cPl := ⟨bd44, fun A x y => byPlace_c⟩
theorem ordered_c {A : SP} {a : Option Addr} {c n gf : Nat} {cf : Mk → Mk → Int} {l : List Mk} (ho : OrdF gf cf) (hw : SWO (ltc cf)) (hr : Rs A a (mcs l) := by repeat (first | assumption | with_reducible exact rs_sl | with_reducible exact rs_pt0 | exact rs_none | apply Rs.left)) (hm : l.length = n := by first | assumption | rfl) (hs : n ≤ 5864062014800 := by omega) :
    Fn Try.prog 33 #[.slice a n c, .func (.func gf) [].toArray [].toArray] (A) (fun r B => ∃ a2 c2, r = .slice a2 n c2 ∧ n ≤ c2 ∧ B = A * Sl 3 (.slice a2 n c2) n (mcs (srt (ltc cf) l))) := by
  refine fn_enterW (args := [.slice a n c, .func (.func gf) [].toArray [].toArray]) Try.func33 rfl Try.ntmps33 (by simp) ?_; refine sr ?_; refine tla ?_; refine nq ?_; refine sr ?_; refine tlm ?_; refine tl_c rfl (o_call bd55 rfl (CloneM_c (l := l))) ?_; rintro _ _ ⟨a7, c7, rfl, hc7, rfl⟩; refine tla ?_; refine nq ?_; refine sr ?_; refine tlm ?_; refine tlm ?_; refine tl_c rfl (o_call bd56 rfl (ssf_f A (d := l) ho hw (by omega) hm)) ?_; rintro _ _ ⟨rfl, rfl⟩; refine nq ?_; refine sr ?_; refine tlm ?_; refine tla ?_; refine nq ?_; refine tc_ret ?_; exact ⟨.slice a7 n c7, _, res1 rfl rfl, fun _ _ h => h, a7, c7, rfl, hc7, rfl⟩
def okM (m : Mk) : Bool := decide (0 ≤ m.at_) && decide (m.gr ≤ 1)
theorem right_c {A : SP} {m : Mk} :
    Fn Try.prog 42 #[.agg m.cells.toArray] (A) (fun r B => r = .bool (okM m) ∧ A = B) := by
  refine fn_enterW (args := [.agg m.cells.toArray]) Try.func42 rfl Try.ntmps42 (by simp) ?_; refine sr ?_; refine tl_x rfl (o_box rfl rfl) ?_; rintro _ _ ⟨b1, rfl, rfl⟩; refine tla ?_; refine nq ?_; refine sr ?_; refine tv (o_fieldAddr (o := 1) Try.underlying35 rfl rfl sz3 rfl) ?_; refine tv (by first | exact o_load p3 rfl (by repeat (first | with_reducible exact has_here | with_reducible exact has_pt | apply has_left)) rfl | exact o_loadC p3 rfl (by assumption)) ?_; refine tv (o_geq rfl rfl) ?_; refine tlm ?_; refine tl_bool (d := 6) rfl (fun h => ?_) (fun h => ?_)
  · have h0 : 0 ≤ m.at_ := by first | exact of_decide_eq_true h | exact h
    refine tv (o_fieldAddr (o := 2) Try.underlying35 rfl rfl sz5 rfl) ?_; refine tv (by first | exact o_load p5 rfl (by repeat (first | with_reducible exact has_here | with_reducible exact has_pt | apply has_left)) rfl | exact o_loadC p5 rfl (by assumption)) ?_; refine tv (o_leq rfl rfl) ?_; refine tv (o_pick_t rfl (by conv => lhs; whnf)) ?_; refine tla ?_; refine nq ?_; refine tc_ret ?_; exact ⟨.bool (okM m), A, res1 rfl (by first | (show Value.bool (decide ((m.gr : Int) ≤ 1)) = _; unfold okM; congr 1; rw [Bool.eq_iff_iff]; simp; omega) | (show Value.bool false = _; unfold okM; congr 1; symm; rw [Bool.eq_false_iff]; simp; omega)), Dr.sat (by repeat (first | with_reducible exact dr_refl | apply dr_keep | apply dr_drop)), rfl, rfl⟩
  · have h0 : ¬ 0 ≤ m.at_ := by first | exact of_decide_eq_false h | exact h
    refine tk ?_; refine tk ?_; refine tk ?_; refine tv (o_pick_f rfl (by conv => lhs; whnf)) ?_; refine tla ?_; refine nq ?_; refine tc_ret ?_; exact ⟨.bool (okM m), A, res1 rfl (by first | (show Value.bool (decide ((m.gr : Int) ≤ 1)) = _; unfold okM; congr 1; rw [Bool.eq_iff_iff]; simp; omega) | (show Value.bool false = _; unfold okM; congr 1; symm; rw [Bool.eq_false_iff]; simp; omega)), Dr.sat (by repeat (first | with_reducible exact dr_refl | apply dr_keep | apply dr_drop)), rfl, rfl⟩
end Go.Vl

set_option linter.unusedVariables false
set_option linter.unusedSimpArgs false
namespace Go.Vl
open Go Go.Proofs
/-- Bytes in a block of their own, from its begin on; e is the block's kind. -/
def SlB (e : TypeId) (v : Value) (n : Nat) (xs : List Value) : SP := fun h => xs.length = n ∧
  ((v = .slice none 0 0 ∧ n = 0 ∧ h = fun _ => none) ∨
   ∃ b cap l, v = .slice (some ⟨b, 0, none⟩) n cap ∧ n ≤ cap ∧ cap ≤ l.length ∧ l.take n = xs ∧ pt b (cl l e) h)
theorem slb_iff {e : TypeId} {v : Value} {n : Nat} {xs : List Value} {R : SP} {g : Gh} {w : World} : sat g w (R * SlB e v n xs) ↔ xs.length = n ∧
    ((v = .slice none 0 0 ∧ n = 0 ∧ sat g w R) ∨ ∃ b cap l, v = .slice (some ⟨b, 0, none⟩) n cap ∧ n ≤ cap ∧ cap ≤ l.length ∧ l.take n = xs ∧ sat g w (R * pt b (cl l e))) := by
  constructor
  · intro hs
    obtain ⟨_, ⟨x, y, hd, rfl, ha, hl, hb⟩, hx⟩ := hs.hp
    refine ⟨hl, ?_⟩
    rcases hb with ⟨e1, e2, e3⟩ | ⟨b, cap, l, e1, e2, e3, e4, e5⟩
    · exact .inl ⟨e1, e2, hs.left⟩
    · exact .inr ⟨b, cap, l, e1, e2, e3, e4, hs.os, hs.tape, hs.out, _, ⟨x, y, hd, rfl, ha, e5⟩, hx⟩
  · rintro ⟨hl, h | ⟨b, cap, l, e1, e2, e3, e4, hs⟩⟩
    · obtain ⟨e1, e2, hs⟩ := h
      rw [← star_emp R] at hs
      exact hs.mono fun h ⟨x, y, hd, e, ha, hb⟩ => ⟨x, y, hd, e, ha, hl, .inl ⟨e1, e2, hb⟩⟩
    · exact hs.mono fun h ⟨x, y, hd, e, ha, hb⟩ => ⟨x, y, hd, e, ha, hl, .inr ⟨b, cap, l, e1, e2, e3, e4, hb⟩⟩
theorem slb_nil {e : TypeId} {R : SP} {g : Gh} {w : World} (hs : sat g w R) : sat g w (R * SlB e (.slice none 0 0) 0 []) := slb_iff.2 ⟨rfl, .inl ⟨rfl, rfl, hs⟩⟩
theorem slb_rd {e : TypeId} {v : Value} {n : Nat} {xs : List Value} {R : SP} {g : Gh} {w : World} (hs : sat g w (R * SlB e v n xs)) : ∃ a cap, v = .slice a n cap ∧ n ≤ cap ∧ Rd (R * SlB e v n xs) a xs := by
  obtain ⟨hl, ⟨rfl, rfl, _⟩ | ⟨b, cap, l, rfl, h1, h2, h3, hs'⟩⟩ := slb_iff.1 hs
  · exact ⟨none, 0, rfl, Nat.le_refl _, by rw [List.eq_nil_of_length_eq_zero hl]; exact rd_nil⟩
  · refine ⟨_, cap, rfl, h1, rd_cells fun i v hv g' w' hs2 => ?_⟩
    obtain ⟨_, ⟨e1, _⟩ | ⟨b', cap', l', e1, _, _, h4, hs3⟩⟩ := slb_iff.1 hs2
    · cases e1
    · simp only [Value.slice.injEq, Option.some.injEq, Addr.mk.injEq, and_true, true_and] at e1
      obtain ⟨rfl, rfl⟩ := e1
      rw [Nat.zero_add, cell_cl (has_here g' w' hs3)]
      rw [← h4, List.getElem?_take] at hv
      split at hv
      · exact hv
      · cases hv
section
variable {P : Program} {n : Nat} {ρ : Env} {A : SP} {dst : Option Tmp} {ty : TypeId} {pos : String} {after : Array Edge} {gd : Option (Nat × Bool)}
theorem o_apSB {t t' e e' : TypeId} {x y : Operand} {z : Value} {m q bytes c c0 : Nat} {a a2 : Option Addr} {xs ys : List Value} {R : SP} {C : SP → SP}
    (hu : P.underlying t = some (.slice e)) (hu' : P.underlying t' = some (.slice e')) (hk : szE P e = some 1) (hb : bytesE P e = some bytes) (hz : zeroE P e = some z) (hzk : z.cells.size = 1) (hb0 : 0 < bytes)
    (hx : ev n ρ x = .slice a q c0) (hy : ev n ρ y = .slice a2 m c) (hf : Ct A (SlB e (.slice a q c0) q xs) R C) (hr : Rs A a2 ys) (hm : ys.length = m) (ho : ys.all oneC = true) (hlim : (q + m) * bytes ≤ 140737488355328) :
    OpX P n ρ A ⟨dst, .call { callee := .builtin .append, args := #[x, y], argTypes := #[t, t'] }, ty, pos, after, gd⟩ (fun v' B => ∃ a' c', v' = .slice a' (q + m) c' ∧ B = C (SlB e (.slice a' (q + m) c') (q + m) (xs ++ ys))) := fun g w hs => by
  have hr0 := hr.rd hs
  have ho' : ∀ u ∈ ys, oneC u = true := fun u hu => List.all_eq_true.1 ho u hu
  obtain ⟨hA, hC⟩ := hf
  have hs0 := hs
  rw [hA] at hs0
  obtain ⟨hl, hcase⟩ := slb_iff.1 hs0
  obtain ⟨aa, cap, hv, hqc, hrd⟩ := slb_rd hs0
  simp only [Value.slice.injEq, true_and] at hv
  obtain ⟨rfl, rfl⟩ := hv
  have key : ∀ (r : Value) (w' : World), (Builtin.append_ #[t, t'] ty #[.slice a q c0, .slice a2 m c]).run P w = .ok r w' →
      (execOp (ev n ρ) ⟨dst, .call { callee := .builtin .append, args := #[x, y], argTypes := #[t, t'] }, ty, pos, after, gd⟩).run P w = .ok (.value r) w' := fun r w' h => by
    simp only [execOp, resolve, List.map_toArray, List.map_cons, List.map_nil, hx, hy]
    rw [run_bind (w' := w) (a := ⟨.builtin .append #[t, t'] ty _, #[.slice a q c0, .slice a2 m c]⟩) (by rfl)]
    simp only [invoke, builtin]
    rw [run_bind h]; rfl
  have hold : (Builtin.firstCells 1 q (.slice a q c0)).run P w = .ok xs.toArray w := run_firstCells hrd (by omega) hs0
  have hnew : ∀ w' : World, sat g w' A → (Builtin.firstCells 1 m (.slice a2 m c)).run P w' = .ok ys.toArray w' := fun w' h => run_firstCells hr0 (by omega) h
  obtain ⟨i, hi, hi1, hi2, hi3⟩ := info_of hk hb hz
  by_cases hroom : q + m ≤ c0
  · rcases hcase with ⟨e1, e2, hsR⟩ | ⟨b, cap', l, e1, e2, e3, e4, hsR⟩
    · simp only [Value.slice.injEq] at e1
      obtain ⟨rfl, rfl, rfl⟩ := e1
      obtain rfl : m = 0 := by omega
      have hy0 : ys = [] := List.eq_nil_of_length_eq_zero hm
      subst hy0
      have hx0 : xs = [] := List.eq_nil_of_length_eq_zero hl
      subst hx0
      refine ⟨.slice none 0 0, w, _, key _ _ ?_, ?_, none, 0, rfl, rfl⟩
      · have hn := hnew w hs
        simp [Builtin.append_, run_underlying hu, run_underlying hu', sizeOf, typeInfo, hi, hi1, Builtin.lenOf, hn]
      · rw [hC]; exact hs0
    · simp only [Value.slice.injEq, true_and] at e1
      obtain ⟨rfl, rfl⟩ := e1
      have hlen : 0 + q + ys.length ≤ l.length := by omega
      obtain ⟨w', hst, hh, g1, g2, g3⟩ := run_storeCells (P := P) (off := 0 + q) ys 0 l w (has_here g w hsR) (by omega) ho'
      refine ⟨.slice (some ⟨b, 0, none⟩) (q + m) c0, w', _, key _ _ ?_, ?_, _, _, rfl, rfl⟩
      · have hn := hnew w hs
        have hst' : (storeCells ⟨b, q, none⟩ ys).run P w = .ok () w' := by simpa using hst
        simp [Builtin.append_, run_underlying hu, run_underlying hu', sizeOf, typeInfo, hi, hi1, Builtin.lenOf, hn, hroom, addr_add, hst']
      · have hu2 : Upd (R * pt b (cl l e)) b (cl l e) (cl (splice l (0 + q) ys) e) (R * pt b (cl (splice l (0 + q) ys) e)) := upd_here
        have hs2 := hu2.sat hsR (fun j => by rw [hh j]; rfl) g1 g2 g3
        rw [hC]
        refine slb_iff.2 ⟨by rw [List.length_append]; omega, .inr ⟨b, c0, _, rfl, hroom, by rw [splice_length]; exact e3, ?_, hs2⟩⟩
        rw [splice_eq (by omega), Nat.zero_add, e4, List.take_left' (by rw [List.length_append]; omega)]
  · have hbig : c0 < q + m := by omega
    have hfit := growslice_fits hbig hlim
    have p48 : (2 : Nat) ^ 48 = 281474976710656 := by decide
    let cut := (Question.appendCap (q + m) c0 e).cut (w.tape w.drawn (.appendCap (q + m) c0 e))
    have hcut : q + m ≤ cut := by show q + m ≤ (q + m) + _; omega
    let wd : World := { w with drawn := w.drawn + 1 }
    have hsd : sat g wd A := hs.draw rfl rfl rfl rfl
    have hsd0 : sat g wd (R * SlB e (.slice a q c0) q xs) := hA ▸ hsd
    have hold' : (Builtin.firstCells 1 q (.slice a q c0)).run P wd = .ok xs.toArray wd := run_firstCells hrd (by omega) hsd0
    let rest := Builtin.zeroCells z.cells (cut - (q + m))
    have hrest : rest.size = cut - (q + m) := by show (Builtin.zeroCells z.cells (cut - (q + m))).size = _; rw [size_zeroCells, hzk, Nat.mul_one]
    let cs := xs ++ ys ++ rest.toList
    have hcs : xs.toArray ++ ys.toArray ++ rest = cs.toArray := by apply Array.ext'; simp [cs]
    refine ⟨.slice (some ⟨w.heap.size, 0, none⟩) (q + m) cut, wd.alloc (cl cs e), _, key _ _ ?_, ?_, _, _, rfl, rfl⟩
    · have hn := hnew wd hsd
      have h63 : ¬ (9223372036854775807 < ((q : Int) + (m : Int))) := by
        have : (q + m) * 1 ≤ (q + m) * bytes := Nat.mul_le_mul_left _ hb0
        omega
      have hfit' : ¬ (281474976710656 < Builtin.nextslicecap (q + m) c0 * i.bytes) := by rw [hi2]; omega
      have hwd : w.drew = wd := rfl
      have hcut' : (Question.appendCap (q + m) c0 e).cut (w.tape w.drawn (.appendCap (q + m) c0 e)) = cut := rfl
      have hrow : wd.alloc (.cells (xs.toArray ++ ys.toArray ++ Builtin.zeroCells z.cells (cut - (q + m))) e) = wd.alloc (cl cs e) := congrArg (fun c => wd.alloc (.cells c e)) hcs
      have hsz : wd.heap.size = w.heap.size := rfl
      rw [← hrow]
      simp [Builtin.append_, run_underlying hu, run_underlying hu', sizeOf, typeInfo, zeroValue, hi, hi1, hi3, Builtin.lenOf, hroom, h63, hfit', Question.forced, hwd, hold', hn, hcut', newRow, hsz]
      congr 2; apply Array.ext'; simp
    · have h2 := (hsd0.alloc (cl cs e))
      have h3 : sat g (wd.alloc (cl cs e)) (R * pt w.heap.size (cl cs e)) := h2.drop2
      rw [hC]
      refine slb_iff.2 ⟨by rw [List.length_append]; omega, .inr ⟨w.heap.size, cut, cs, rfl, hcut, ?_, ?_, h3⟩⟩
      · simp only [cs, List.length_append, Array.length_toList, hrest]; omega
      · show List.take _ ((xs ++ ys) ++ _) = _
        exact List.take_left' (by rw [List.length_append]; omega)
/-- A pointer and itself. -/
theorem o_nepS {t t' e : TypeId} {x y : Operand} {a : Addr} {j : TypeInfo} (hu : P.underlying t = some (.pointer e)) (hj : P.info? e = some j) (hge : P.eqGuardType P.depth t = false) (hx : ev n ρ x = .pointer (some a)) (hy : ev n ρ y = .pointer (some a)) :
    OpV P n ρ A ⟨dst, .binOp .neq t x y t', ty, pos, after, gd⟩ (.bool false) := opv_of fun w => by
  simp only [execOp, hx, hy]
  rw [run_bind (w' := w) (a := .bool false)]
  · rfl
  rw [run_bind (w' := w) (a := ())]
  · exact Lib.run_neq_ptr_same w a hu hj
  · simp [eqGuard, hge, program, bind, Sem.bind, Sem.run, pure]
theorem o_toU {s t te E : TypeId} {x : Operand} {b : Nat} {l : List Value} {j : TypeInfo} (hs : P.underlying s = some (.pointer te)) (hd : P.underlying t = some .unsafePointer) (ht : P.info? te = some j) (hj : j.size ≠ 0) (hx : ev n ρ x = .pointer (some ⟨b, 0, none⟩)) (hh : Has A b (cl l E)) (hl : 0 < l.length) :
    OpV P n ρ A ⟨dst, .convert s t x, ty, pos, after, gd⟩ (.pointer (some ⟨b, 0, none⟩)) := fun g w hsat => by
  have h := hh g w hsat
  simp only [execOp, hx]
  rw [run_bind (w' := w) (a := .pointer (some ⟨b, 0, none⟩))]
  · rfl
  exact Lib.run_to_unsafe w ⟨b, 0, none⟩ hs hd ht hj (e := E) (cells := l.length) (by unfold World.shape?; rw [h]; simp [cl]) hl
theorem o_fromU {s t u E : TypeId} {x : Operand} {b : Nat} {l : List Value} {j : TypeInfo} (hs : P.underlying s = some .unsafePointer) (hd : P.underlying t = some (.pointer u)) (hj : P.info? u = some j) (hx : ev n ρ x = .pointer (some ⟨b, 0, none⟩)) (hh : Has A b (cl l E)) (hli : liesAt P P.depth E (l.length / P.cellsOf E) 0 u 1 = true) :
    OpV P n ρ A ⟨dst, .convert s t x, ty, pos, after, gd⟩ (.pointer (some ⟨b, 0, none⟩)) := fun g w hsat => by
  have h := hh g w hsat
  simp only [execOp, hx]
  rw [run_bind (w' := w) (a := .pointer (some ⟨b, 0, none⟩))]
  · rfl
  exact Lib.run_from_unsafe w ⟨b, 0, none⟩ hs hd hj (e := E) (cells := l.length) (by unfold World.shape?; rw [h]; simp [cl]) hli
theorem o_noEsc {f : FuncId} {fn : Func} {tys : Array TypeId} {x : Operand} {v : Value} (hf : P.funcs[f]? = some fn) (hname : (fn.name == "runtime.NumGoroutine") = false) (hb : fn.body.isNone = true) (hn : Extern.findNext fn = none) (he : Extern.find fn = some Extern.AbiNoEscape.same) (hx : ev n ρ x = v) :
    OpV P n ρ A ⟨dst, .call { callee := .value (.func f), args := #[x], argTypes := tys }, ty, pos, after, gd⟩ v := opv_of fun w => by
  have hx' : (#[x] : Array Operand).map (ev n ρ) = #[v] := by simp [hx]
  have hfv : ev n ρ (.func f) = .func (.func f) #[] #[] := rfl
  simp only [execOp, resolve, hfv, Deferred.ofValue, hx']
  rw [run_bind (w' := w) (a := ⟨.fn (.func f) #[], #[] ++ #[v]⟩) (by rfl)]
  simp only [invoke]
  have : (callFunc f (#[] ++ #[v] ++ #[])).run P w = .ok (.value v) w := by rw [run_callFunc_extern hf hname hb hn he]; rfl
  exact this
end
end Go.Vl

set_option linter.unusedVariables false
set_option linter.unusedSimpArgs false
namespace Go.Vl
open Go Go.Proofs
section
variable {P : Program} {n : Nat} {ρ : Env} {A : SP} {dst : Option Tmp} {ty : TypeId} {pos : String} {after : Array Edge} {gd : Option (Nat × Bool)}
theorem o_usd {x : Operand} {tys : Array TypeId} {a : Option Addr} {m c : Nat} (hx : ev n ρ x = .slice a m c) (hc : a = none ∨ c ≠ 0) :
    OpV P n ρ A ⟨dst, .call { callee := .builtin .unsafeSliceData, args := #[x], argTypes := tys }, ty, pos, after, gd⟩ (.pointer a) := opv_of fun w => by
  simp only [execOp, resolve, List.map_toArray, List.map_cons, List.map_nil, hx]
  rw [run_bind (w' := w) (a := ⟨.builtin .unsafeSliceData tys ty _, #[.slice a m c]⟩) (by rfl)]
  simp only [invoke, builtin]
  rw [run_bind (w' := w) (a := .pointer a)]
  · rfl
  cases a with
  | none => exact Lib.run_unsafeSliceData_nil w tys ty m c
  | some p => exact Lib.run_unsafeSliceData_row w tys ty p m c (by rcases hc with h | h; cases h; exact h)
theorem o_ustr0 {x y : Operand} {pt' it : TypeId} {a : Option Addr} (hx : ev n ρ x = .pointer a) (hy : ev n ρ y = .int .i64 0) :
    OpV P n ρ A ⟨dst, .call { callee := .builtin .unsafeString, args := #[x, y], argTypes := #[pt', it] }, ty, pos, after, gd⟩ (.string .empty) := opv_of fun w => by
  simp only [execOp, resolve, List.map_toArray, List.map_cons, List.map_nil, hx, hy]
  rw [run_bind (w' := w) (a := ⟨.builtin .unsafeString #[pt', it] ty _, #[.pointer a, .int .i64 0]⟩) (by rfl)]
  simp only [invoke, builtin]
  rw [run_bind (w' := w) (a := .string .empty)]
  · rfl
  exact Lib.run_unsafeString_none w pt' it ty a
theorem o_ustr {x y : Operand} {pt' it e : TypeId} {b m c : Nat} {xs : List Nat} {R : SP} (hp : P.underlying pt' = some (.pointer e)) (hc : P.cellsOf e = 1) (hx : ev n ρ x = .pointer (some ⟨b, 0, none⟩)) (hy : ev n ρ y = .int .i64 (m : Nat))
    (hf : A = R * SlB e (.slice (some ⟨b, 0, none⟩) m c) m (bys xs)) (hb : ∀ x ∈ xs, x < 256) (h0 : 0 < m) (h63 : m ≤ 1125899906842624) :
    OpX P n ρ A ⟨dst, .call { callee := .builtin .unsafeString, args := #[x, y], argTypes := #[pt', it] }, ty, pos, after, gd⟩ (fun v B => v = .string (sob xs) ∧ B = R) := fun g w hs => by
  subst hf
  obtain ⟨hl, ⟨e1, _⟩ | ⟨b', cap, l, e1, h1, h2, h3, hs'⟩⟩ := slb_iff.1 hs
  · cases e1
  simp only [Value.slice.injEq, Option.some.injEq, Addr.mk.injEq, and_true, true_and] at e1
  obtain ⟨rfl, rfl⟩ := e1
  rw [bys_length] at hl
  have hh := has_here g w hs'
  have hfz := Lib.run_unsafeString_row (P := P) w pt' it ty e hp hc b l.length (by unfold World.shape?; rw [hh]; simp [cl]) (xs.map fun n => UInt8.ofNat n) (by intro h; simp at h; subst h; simp at hl; omega) (by simp; omega) (by simp; omega) (fun j x hj => by
    rw [List.getElem?_map] at hj
    cases hxj : xs[j]? with
    | none => rw [hxj] at hj; cases hj
    | some k =>
      rw [hxj] at hj
      simp only [Option.map_some, Option.some.injEq] at hj
      subst hj
      have hk : k < 256 := hb k (List.mem_of_getElem? hxj)
      have hjl : j < m := by have := (List.getElem?_eq_some_iff.1 hxj).1; omega
      rw [addr_add, Nat.zero_add, cell_cl hh]
      have h4 := congrArg (fun l : List Value => l[j]?) h3
      simp only [List.getElem?_take, if_pos hjl] at h4
      rw [h4]
      unfold bys b8
      rw [List.getElem?_map, hxj]
      simp [Nat.mod_eq_of_lt hk])
  have hlm : (xs.map fun n => UInt8.ofNat n).length = m := by rw [List.length_map]; exact hl
  rw [hlm] at hfz
  refine ⟨_, w.freeze ⟨b, 0, none⟩ m, R, ?_, ?_, rfl, rfl⟩
  · simp only [execOp, resolve, List.map_toArray, List.map_cons, List.map_nil, hx, hy]
    rw [run_bind (w' := w) (a := ⟨.builtin .unsafeString #[pt', it] ty _, #[.pointer (some ⟨b, 0, none⟩), .int .i64 (m : Nat)]⟩) (by rfl)]
    simp only [invoke, builtin]
    rw [run_bind hfz]; rfl
  · have hu : Upd (R * pt b (cl l e)) b (cl l e) (.cells l.toArray e (0, 0 + m)) (R * pt b (.cells l.toArray e (0, 0 + m))) := upd_here
    have h5 : sat g (w.freeze ⟨b, 0, none⟩ m) (R * pt b (.cells l.toArray e (0, 0 + m))) := hu.sat hs' (fun k => by
      unfold World.freeze
      rw [if_neg (by omega)]
      show (w.heap.modify b _)[k]? = _
      rw [Array.getElem?_modify]
      by_cases hk : b = k
      · subst hk; rw [if_pos rfl, if_pos rfl, hh]; simp [cl]
      · rw [if_neg hk, if_neg (Ne.symm hk)]) (by unfold World.freeze; split <;> rfl) (by unfold World.freeze; split <;> rfl) (by unfold World.freeze; split <;> rfl)
    exact h5.left
end
def bdc (p v : Value) : List Value := [p, v]
attribute [local irreducible] Sl pt ro SlB
theorem cc0_f (F : SP) {b : Nat} {v : Value} :
    Fn Try.prog 66 #[.pointer (some ⟨b, 0, none⟩)] (F * pt b (cl [.pointer none, v] 64)) (fun r B => r = .tuple #[] ∧ B = F * pt b (cl [.pointer (some ⟨b, 0, none⟩), v] 64)) := by
  refine fn_enterW (args := [.pointer (some ⟨b, 0, none⟩)]) Try.func66 rfl Try.ntmps66 (by simp) ?_
  obtain ⟨jb, hj1, hj2, _, _⟩ := info_of sz64 by64 z64
  refine sr ?_; refine tlm ?_; refine tv (o_nilCheck rfl) ?_; refine tv (o_fieldAddr (o := 0) Try.underlying64 rfl rfl sz61 rfl) ?_; refine tv (by first | exact o_load p61 rfl (by repeat (first | with_reducible exact has_here | with_reducible exact has_pt | apply has_left)) rfl | exact o_loadC p61 rfl (by assumption)) ?_; refine tv (o_eqp Try.underlying61 rfl rfl) ?_; refine nq ?_; refine tc_cond rfl (fun h => ?_) (fun h => ?_)
  · try simp only [lv1, lv2, lv3, lv4, lv5, lv6, Bool.not_true, Bool.not_false] at h
    refine tc_reg ?_; refine tlm ?_; refine tlm ?_; refine tv (o_toU Try.underlying61 Try.underlying101 hj1 (by omega) rfl (by repeat (first | exact has_here | apply has_left)) (by show 0 < 2; decide)) ?_; refine tv (o_noEsc Try.func72 (by kernel_rfl) (by kernel_rfl) (by kernel_rfl) (by kernel_rfl) rfl) ?_; refine tv (o_fromU Try.underlying101 Try.underlying61 hj1 rfl (by repeat (first | exact has_here | apply has_left)) (by kernel_rfl)) ?_; refine tv (o_nilCheck rfl) ?_; refine tv (o_fieldAddr (o := 0) Try.underlying64 rfl rfl sz61 rfl) ?_; refine tl_u rfl (o_stU rfl (by repeat (first | with_reducible exact upd_here | with_reducible exact upd_pt | apply upd_left)) sz61 rfl rfl (by first | decide | simp | omega) rfl) ?_; refine tl_nil ?_; exact ⟨.tuple #[], F * pt b (cl [.pointer (some ⟨b, 0, none⟩), v] 64), res0 rfl, Dr.sat (by repeat (first | with_reducible exact dr_refl | apply dr_keep | apply dr_drop)), rfl, rfl⟩
  · (exfalso; first | (revert h; simp; done) | (simp at h; done) | (revert h; simp; omega) | (simp at h; omega) | omega)
theorem cc1_f (F : SP) {b : Nat} {v : Value} :
    Fn Try.prog 66 #[.pointer (some ⟨b, 0, none⟩)] (F * pt b (cl [.pointer (some ⟨b, 0, none⟩), v] 64)) (fun r B => r = .tuple #[] ∧ B = F * pt b (cl [.pointer (some ⟨b, 0, none⟩), v] 64)) := by
  refine fn_enterW (args := [.pointer (some ⟨b, 0, none⟩)]) Try.func66 rfl Try.ntmps66 (by simp) ?_
  obtain ⟨jb, hj1, hj2, _, _⟩ := info_of sz64 by64 z64
  refine sr ?_; refine tlm ?_; refine tv (o_nilCheck rfl) ?_; refine tv (o_fieldAddr (o := 0) Try.underlying64 rfl rfl sz61 rfl) ?_; refine tv (by first | exact o_load p61 rfl (by repeat (first | with_reducible exact has_here | with_reducible exact has_pt | apply has_left)) rfl | exact o_loadC p61 rfl (by assumption)) ?_; refine tv (o_eqp Try.underlying61 rfl rfl) ?_; refine nq ?_; refine tc_cond rfl (fun h => ?_) (fun h => ?_)
  · (exfalso; first | (revert h; simp; done) | (simp at h; done) | (revert h; simp; omega) | (simp at h; omega) | omega)
  · try simp only [lv1, lv2, lv3, lv4, lv5, lv6, Bool.not_true, Bool.not_false] at h
    refine sr ?_; refine tlm ?_; refine tv (o_nilCheck rfl) ?_; refine tv (o_fieldAddr (o := 0) Try.underlying64 rfl rfl sz61 rfl) ?_; refine tv (by first | exact o_load p61 rfl (by repeat (first | with_reducible exact has_here | with_reducible exact has_pt | apply has_left)) rfl | exact o_loadC p61 rfl (by assumption)) ?_; refine tlm ?_; refine tv (o_nepS Try.underlying61 hj1 (by kernel_rfl) rfl rfl) ?_; refine nq ?_; refine tc_cond rfl (fun h => ?_) (fun h => ?_)
    · (exfalso; first | (revert h; simp; done) | (simp at h; done) | (revert h; simp; omega) | (simp at h; omega) | omega)
    · try simp only [lv1, lv2, lv3, lv4, lv5, lv6, Bool.not_true, Bool.not_false] at h
      refine tc_skip ?_; exact ⟨.tuple #[], F * pt b (cl [.pointer (some ⟨b, 0, none⟩), v] 64), res0 rfl, Dr.sat (by repeat (first | with_reducible exact dr_refl | apply dr_keep | apply dr_drop)), rfl, rfl⟩
theorem cc_f (F : SP) {b : Nat} {p v : Value} (hp : p = .pointer none ∨ p = .pointer (some ⟨b, 0, none⟩)) : Fn Try.prog 66 #[.pointer (some ⟨b, 0, none⟩)] (F * pt b (cl [p, v] 64)) (fun r B => r = .tuple #[] ∧ B = F * pt b (cl [.pointer (some ⟨b, 0, none⟩), v] 64)) := by
  rcases hp with rfl | rfl
  · exact cc0_f F
  · exact cc1_f F
theorem bw_f (F : SP) {b n c m c2 : Nat} {a a2 : Option Addr} {p : Value} {xs ys : List Nat} (hp : p = .pointer none ∨ p = .pointer (some ⟨b, 0, none⟩)) (hr : Rs F a2 (bys ys)) (hm : ys.length = m) (hx : xs.length = n) (hl : n + m ≤ 1099511627776) :
    Fn Try.prog 47 #[.pointer (some ⟨b, 0, none⟩), .slice a2 m c2] (F * pt b (cl [p, .slice a n c] 64) * SlB 5 (.slice a n c) n (bys xs)) (fun r B => ∃ a3 c3, r = .tuple #[.int .i64 (m : Nat), .nilIface] ∧ B = F * pt b (cl [.pointer (some ⟨b, 0, none⟩), .slice a3 (n + m) c3] 64) * SlB 5 (.slice a3 (n + m) c3) (n + m) (bys (xs ++ ys))) := by
  refine fn_enterW (args := [.pointer (some ⟨b, 0, none⟩), .slice a2 m c2]) Try.func47 rfl Try.ntmps47 (by simp) ?_; refine sr ?_; refine tla ?_; refine tla ?_; refine nq ?_; refine sr ?_; refine tlm ?_; refine tl_c rfl (o_call bd66 rfl (fn_eq (star_swap _ _ _) (cc_f (F * SlB 5 (.slice a n c) n (bys xs)) hp))) ?_; rintro _ _ ⟨rfl, rfl⟩; refine nq ?_; refine sr ?_; refine tlm ?_; refine tlm ?_; refine tv (o_nilCheck rfl) ?_; refine tv (o_fieldAddr (o := 1) Try.underlying64 rfl rfl sz62 rfl) ?_; refine tv (by first | exact o_load p62 rfl (by repeat (first | with_reducible exact has_here | with_reducible exact has_pt | apply has_left)) rfl | exact o_loadC p62 rfl (by assumption)) ?_; refine tlm ?_; refine tl_x rfl (o_apSB Try.underlying62 Try.underlying62 sz5 by5 z5 rfl (by decide) rfl rfl (by repeat (first | with_reducible exact ct_here | apply ct_left)) (by repeat (first | exact hr | apply Rs.left)) (by rw [bys_length]; exact hm) (bys_all _) (by omega)) ?_; rintro _ _ ⟨a14, c14, rfl, rfl⟩; refine tv (o_nilCheck rfl) ?_; refine tv (o_fieldAddr (o := 1) Try.underlying64 rfl rfl sz62 rfl) ?_; refine tl_u rfl (o_stU rfl (by repeat (first | with_reducible exact upd_here | with_reducible exact upd_pt | apply upd_left)) sz62 rfl rfl (by first | decide | simp | omega) rfl) ?_; refine nq ?_; refine sr ?_
  refine tlm ?_; refine tv (o_len Try.underlying62 rfl) ?_; refine tla ?_; refine tla ?_; refine nq ?_; refine tc_ret ?_
  rw [← bys_append]
  exact ⟨.tuple #[.int .i64 (m : Nat), .nilIface], F * pt b (cl [.pointer (some ⟨b, 0, none⟩), .slice a14 (n + m) c14] 64) * SlB 5 (.slice a14 (n + m) c14) (n + m) (bys (xs ++ ys)), res2 rfl rfl rfl, fun _ _ h => h.perm (by ac_rfl), a14, c14, rfl, rfl⟩
theorem bs0_f (F : SP) {b c : Nat} {p : Value} :
    Fn Try.prog 48 #[.pointer (some ⟨b, 0, none⟩)] (F * pt b (cl [p, .slice none 0 c] 64)) (fun r B => r = .string .empty ∧ B = F) := by
  refine fn_enterW (args := [.pointer (some ⟨b, 0, none⟩)]) Try.func48 rfl Try.ntmps48 (by simp) ?_; refine sr ?_; refine tla ?_; refine nq ?_; refine tc_seq ?_; refine tc_regh mo dr_refl ?_
  show TH _ _ _ _ _ 12 #[ff,ff,ff,ff,ff,ff,ff,ff,ff,ff,ff,ff] _ _
  refine th_take (i := 0) (listed' := #[tt,ff,ff,ff,ff,ff,ff,ff,ff,ff,ff,ff]) rfl (by kernel_rfl) (by kernel_rfl) (by kernel_rfl) rfl rfl (o_move (by conv => lhs; whnf)) ?_; refine th_take (i := 1) (listed' := #[tt,tt,ff,ff,ff,ff,ff,ff,ff,ff,ff,ff]) rfl (by kernel_rfl) (by kernel_rfl) (by kernel_rfl) rfl rfl (o_nilCheck rfl) ?_; refine th_take (i := 2) (listed' := #[tt,tt,tt,ff,ff,ff,ff,ff,ff,ff,ff,ff]) rfl (by kernel_rfl) (by kernel_rfl) (by kernel_rfl) rfl rfl (o_fieldAddr (o := 1) Try.underlying64 rfl rfl sz62 rfl) ?_; refine th_take (i := 3) (listed' := #[tt,tt,tt,tt,ff,ff,ff,ff,ff,ff,ff,ff]) rfl (by kernel_rfl) (by kernel_rfl) (by kernel_rfl) rfl rfl (by first | exact o_load p62 rfl (by repeat (first | with_reducible exact has_here | with_reducible exact has_pt | apply has_left)) rfl | exact o_loadC p62 rfl (by assumption)) ?_; refine th_take (i := 4) (listed' := #[tt,tt,tt,tt,tt,ff,ff,ff,ff,ff,ff,ff]) rfl (by kernel_rfl) (by kernel_rfl) (by kernel_rfl) rfl rfl (o_usd rfl (.inl rfl)) ?_; refine th_take (i := 5) (listed' := #[tt,tt,tt,tt,tt,tt,ff,ff,ff,ff,ff,ff]) rfl (by kernel_rfl) (by kernel_rfl) (by kernel_rfl) rfl rfl (o_move (by conv => lhs; whnf)) ?_; refine th_take (i := 6) (listed' := #[tt,tt,tt,tt,tt,tt,tt,ff,ff,ff,ff,ff]) rfl (by kernel_rfl) (by kernel_rfl) (by kernel_rfl) rfl rfl (o_nilCheck rfl) ?_; refine th_take (i := 7) (listed' := #[tt,tt,tt,tt,tt,tt,tt,tt,ff,ff,ff,ff]) rfl (by kernel_rfl) (by kernel_rfl) (by kernel_rfl) rfl rfl (o_fieldAddr (o := 1) Try.underlying64 rfl rfl sz62 rfl) ?_
  refine th_take (i := 8) (listed' := #[tt,tt,tt,tt,tt,tt,tt,tt,tt,ff,ff,ff]) rfl (by kernel_rfl) (by kernel_rfl) (by kernel_rfl) rfl rfl (by first | exact o_load p62 rfl (by repeat (first | with_reducible exact has_here | with_reducible exact has_pt | apply has_left)) rfl | exact o_loadC p62 rfl (by assumption)) ?_; refine th_take (i := 9) (listed' := #[tt,tt,tt,tt,tt,tt,tt,tt,tt,tt,ff,ff]) rfl (by kernel_rfl) (by kernel_rfl) (by kernel_rfl) rfl rfl (o_len Try.underlying62 rfl) ?_; refine th_take (i := 10) (listed' := #[tt,tt,tt,tt,tt,tt,tt,tt,tt,tt,tt,ff]) rfl (by kernel_rfl) (by kernel_rfl) (by kernel_rfl) rfl rfl (o_ustr0 rfl rfl) ?_; refine th_take (i := 11) (listed' := #[tt,tt,tt,tt,tt,tt,tt,tt,tt,tt,tt,tt]) rfl (by kernel_rfl) (by kernel_rfl) (by kernel_rfl) rfl rfl (o_assign (by conv => lhs; whnf)) ?_; refine th_done (by kernel_rfl) ?_; refine q_then_n ?_; refine tc_ret ?_; refine ⟨.string .empty, _, res1 rfl rfl, ?_, rfl, rfl⟩; exact Dr.sat (by repeat (first | with_reducible exact dr_refl | apply dr_keep | apply dr_drop))
theorem bs1_f (F : SP) {b b2 n c : Nat} {p : Value} {xs : List Nat} (hn : 0 < n) (hc : n ≤ c) (hb : ∀ x ∈ xs, x < 256) (hl : n ≤ 1099511627776) :
    Fn Try.prog 48 #[.pointer (some ⟨b, 0, none⟩)] (F * pt b (cl [p, .slice (some ⟨b2, 0, none⟩) n c] 64) * SlB 5 (.slice (some ⟨b2, 0, none⟩) n c) n (bys xs)) (fun r B => r = .string (sob xs) ∧ B = F) := by
  refine fn_enterW (args := [.pointer (some ⟨b, 0, none⟩)]) Try.func48 rfl Try.ntmps48 (by simp) ?_; refine sr ?_; refine tla ?_; refine nq ?_; refine tc_seq ?_; refine tc_regh (S := F * pt b (cl [p, .slice (some ⟨b2, 0, none⟩) n c] 64)) mo (by repeat (first | with_reducible exact dr_refl | apply dr_keep | apply dr_drop)) ?_
  show TH _ _ _ _ _ 12 #[ff,ff,ff,ff,ff,ff,ff,ff,ff,ff,ff,ff] _ _
  refine th_take (i := 0) (listed' := #[tt,ff,ff,ff,ff,ff,ff,ff,ff,ff,ff,ff]) rfl (by kernel_rfl) (by kernel_rfl) (by kernel_rfl) rfl rfl (o_move (by conv => lhs; whnf)) ?_; refine th_take (i := 1) (listed' := #[tt,tt,ff,ff,ff,ff,ff,ff,ff,ff,ff,ff]) rfl (by kernel_rfl) (by kernel_rfl) (by kernel_rfl) rfl rfl (o_nilCheck rfl) ?_; refine th_take (i := 2) (listed' := #[tt,tt,tt,ff,ff,ff,ff,ff,ff,ff,ff,ff]) rfl (by kernel_rfl) (by kernel_rfl) (by kernel_rfl) rfl rfl (o_fieldAddr (o := 1) Try.underlying64 rfl rfl sz62 rfl) ?_; refine th_take (i := 3) (listed' := #[tt,tt,tt,tt,ff,ff,ff,ff,ff,ff,ff,ff]) rfl (by kernel_rfl) (by kernel_rfl) (by kernel_rfl) rfl rfl (by first | exact o_load p62 rfl (by repeat (first | with_reducible exact has_here | with_reducible exact has_pt | apply has_left)) rfl | exact o_loadC p62 rfl (by assumption)) ?_; refine th_take (i := 4) (listed' := #[tt,tt,tt,tt,tt,ff,ff,ff,ff,ff,ff,ff]) rfl (by kernel_rfl) (by kernel_rfl) (by kernel_rfl) rfl rfl (o_usd rfl (.inr (by omega))) ?_; refine th_take (i := 5) (listed' := #[tt,tt,tt,tt,tt,tt,ff,ff,ff,ff,ff,ff]) rfl (by kernel_rfl) (by kernel_rfl) (by kernel_rfl) rfl rfl (o_move (by conv => lhs; whnf)) ?_; refine th_take (i := 6) (listed' := #[tt,tt,tt,tt,tt,tt,tt,ff,ff,ff,ff,ff]) rfl (by kernel_rfl) (by kernel_rfl) (by kernel_rfl) rfl rfl (o_nilCheck rfl) ?_; refine th_take (i := 7) (listed' := #[tt,tt,tt,tt,tt,tt,tt,tt,ff,ff,ff,ff]) rfl (by kernel_rfl) (by kernel_rfl) (by kernel_rfl) rfl rfl (o_fieldAddr (o := 1) Try.underlying64 rfl rfl sz62 rfl) ?_
  refine th_take (i := 8) (listed' := #[tt,tt,tt,tt,tt,tt,tt,tt,tt,ff,ff,ff]) rfl (by kernel_rfl) (by kernel_rfl) (by kernel_rfl) rfl rfl (by first | exact o_load p62 rfl (by repeat (first | with_reducible exact has_here | with_reducible exact has_pt | apply has_left)) rfl | exact o_loadC p62 rfl (by assumption)) ?_; refine th_take (i := 9) (listed' := #[tt,tt,tt,tt,tt,tt,tt,tt,tt,tt,ff,ff]) rfl (by kernel_rfl) (by kernel_rfl) (by kernel_rfl) rfl rfl (o_len Try.underlying62 rfl) ?_; refine th_one (i := 10) (by kernel_rfl) ?_; refine oh_x (i := 10) (listed' := #[tt,tt,tt,tt,tt,tt,tt,tt,tt,tt,tt,ff]) rfl rfl rfl (o_ustr Try.underlying93 (by kernel_rfl) rfl rfl rfl hb hn (by omega)) ?_; rintro _ _ ⟨rfl, rfl⟩; refine ⟨by repeat (first | with_reducible exact dr_refl | apply dr_keep | apply dr_drop), ?_⟩; refine th_take (i := 11) (listed' := #[tt,tt,tt,tt,tt,tt,tt,tt,tt,tt,tt,tt]) rfl (by kernel_rfl) (by kernel_rfl) (by kernel_rfl) rfl rfl (o_assign (by conv => lhs; whnf)) ?_; refine th_done (by kernel_rfl) ?_; refine q_then_n ?_; refine tc_ret ?_; refine ⟨.string (sob xs), _, res1 rfl rfl, ?_, rfl, rfl⟩; exact Dr.sat (by repeat (first | with_reducible exact dr_refl | apply dr_keep | apply dr_drop))
theorem bs_f (F : SP) {b n c : Nat} {a : Option Addr} {p : Value} {xs : List Nat} (hx : xs.length = n) (h0 : 0 < n ∨ a = none) (hb : ∀ x ∈ xs, x < 256) (hl : n ≤ 1099511627776) :
    Fn Try.prog 48 #[.pointer (some ⟨b, 0, none⟩)] (F * pt b (cl [p, .slice a n c] 64) * SlB 5 (.slice a n c) n (bys xs)) (fun r B => r = .string (sob xs) ∧ B = F) := fun g w hs => by
  obtain ⟨h1, ⟨e1, e2, hs'⟩ | ⟨b2, cap, l, e1, h2, h3, h4, hs'⟩⟩ := slb_iff.1 hs
  · simp only [Value.slice.injEq] at e1
    obtain ⟨rfl, rfl, rfl⟩ := e1
    have : xs = [] := List.eq_nil_of_length_eq_zero hx
    subst this
    exact bs0_f F g w hs'
  · simp only [Value.slice.injEq, true_and] at e1
    obtain ⟨rfl, rfl⟩ := e1
    rcases h0 with h0 | h0
    · exact bs1_f F h0 h2 hb hl g w hs
    · cases h0
end Go.Vl

set_option linter.unusedVariables false
set_option linter.unusedSimpArgs false
namespace Go.Vl
open Go Go.Proofs
theorem mcs_f0 {l : List Mk} {j : Nat} (h : j < l.length) : (mcs l)[j * 3 + 0]? = some (.int .u32 (l[j].id : Nat)) := by rw [show mcs l = l.flatMap Mk.cells from rfl, fm_atj (k := 3) (fun _ _ => rfl) h (by decide) rfl]; rfl
theorem mcs_f1 {l : List Mk} {j : Nat} (h : j < l.length) : (mcs l)[j * 3 + 1]? = some (.int .i64 l[j].at_) := by rw [show mcs l = l.flatMap Mk.cells from rfl, fm_atj (k := 3) (fun _ _ => rfl) h (by decide) rfl]; rfl
theorem mcs_f2 {l : List Mk} {j : Nat} (h : j < l.length) : (mcs l)[j * 3 + 2]? = some (.int .u8 (l[j].gr : Nat)) := by rw [show mcs l = l.flatMap Mk.cells from rfl, fm_atj (k := 3) (fun _ _ => rfl) h (by decide) rfl]; rfl
/-- What marks may be: the error. -/
def mayS (l : List Mk) : Int := if 32 < l.length then 191 else if l.all okM = true ∧ (l.map Mk.id).Nodup then 0 else 190
theorem may_bad {l : List Mk} {x : Mk} (h : l.length ≤ 32) (hx : x ∈ l) (hb : okM x = false) : mayS l = 190 := by
  unfold mayS
  rw [if_neg (by omega), if_neg (fun hc => by have := List.all_eq_true.1 hc.1 x hx; rw [hb] at this; cases this)]
theorem may_dup {l : List Mk} {i : Nat} (h : l.length ≤ 32) (hi : i < l.length) (hd : l[i].id ∈ (l.take i).map Mk.id) : mayS l = 190 := by
  unfold mayS
  rw [if_neg (by omega), if_neg (fun hc => ?_)]
  have h1 : l.map Mk.id = (l.take i).map Mk.id ++ (l.drop i).map Mk.id := by rw [← List.map_append, List.take_append_drop]
  have h2 := hc.2
  rw [h1] at h2
  refine (List.nodup_append.1 h2).2.2 _ hd l[i].id (List.mem_map_of_mem ?_) rfl
  rw [List.drop_eq_getElem_cons hi]; exact List.mem_cons_self
theorem may_ok {l : List Mk} (h : l.length ≤ 32) (h1 : l.all okM = true) (h2 : (l.map Mk.id).Nodup) : mayS l = 0 := by unfold mayS; rw [if_neg (by omega), if_pos ⟨h1, h2⟩]
theorem may_zero {l : List Mk} (h : mayS l = 0) : l.length ≤ 32 ∧ l.all okM = true ∧ (l.map Mk.id).Nodup := by
  unfold mayS at h
  split at h
  · cases h
  · split at h
    · rename_i h1 h2; exact ⟨by omega, h2⟩
    · cases h
attribute [local irreducible] Sl pt ro SlB
set_option maxRecDepth 20000 in
set_option maxHeartbeats 2000000 in
theorem may_c {A : SP} {a : Option Addr} {c n : Nat} {l : List Mk} (hr : Rs A a (mcs l) := by repeat (first | assumption | with_reducible exact rs_sl | with_reducible exact rs_pt0 | exact rs_none | apply Rs.left)) (hm : l.length = n := by first | assumption | rfl) (hs : n ≤ 1125899906842624 := by omega) :
    Fn Try.prog 32 #[.slice a n c] (A) (fun r B => r = .int .i64 (mayS l) ∧ A = B) := by
  refine fn_enterW (args := [.slice a n c]) Try.func32 rfl Try.ntmps32 (by simp) ?_; refine sr ?_; refine tla ?_; refine nq ?_; refine tc_seq ?_; refine sr ?_; refine tlm ?_; refine tv (o_len Try.underlying22 rfl) ?_; refine tv (o_gtr rfl rfl) ?_; refine nq ?_; refine tc_cond rfl (fun h => ?_) (fun h => ?_)
  · try simp only [lv1, lv2, lv3, lv4, lv5, lv6, Bool.not_true, Bool.not_false] at h
    refine sr ?_; refine tla ?_; refine nq ?_; refine tc_ret ?_; refine q_then_r ?_; refine ⟨.int .i64 191, _, res1 rfl rfl, ?_, (by unfold mayS; rw [if_pos (by first | omega | (simp at h; omega))]), rfl⟩; exact Dr.sat (by repeat (first | with_reducible exact dr_refl | apply dr_keep | apply dr_drop))
  · have h32 : l.length ≤ 32 := by first | omega | (simp at h; omega)
    refine tc_skip ?_; refine q_then_n ?_; refine sr ?_; refine tl_x rfl (o_makeMap (ik := .u32) Try.underlying83) ?_; rintro _ _ ⟨b9, rfl, rfl⟩; refine tla ?_; refine nq ?_; refine tc_seq ?_; refine sr ?_; refine tlm ?_; refine tv (o_len Try.underlying22 rfl) ?_; refine tlm ?_; refine nq ?_; refine tc_block ?_; refine tc_loop (fun kk ρ BB => ∃ (i : Nat) (M : MS), (i ≤ n) ∧ ((l.take i).all okM = true) ∧ (((l.take i).map Mk.id).Nodup) ∧ (∀ a : Nat, M.get (a : Int) = if a ∈ (l.take i).map Mk.id then some (.bool true) else none) ∧ kk = n - i ∧ ρ 12 = .int .i64 (i : Nat) ∧ ρ 3 = .map (some b9) ∧ ρ 10 = .slice a n c ∧ ρ 11 = .int .i64 (n : Nat) ∧ Dr BB (A * pt b9 (mpo .u32 M))) (m := n - (0)) ?_ ?_
    · exact ⟨0, ⟨[], 0⟩, by omega, rfl, by simp, fun a => by rw [MS.get_nil]; simp, rfl, rfl, rfl, rfl, rfl, (by repeat (first | with_reducible exact dr_refl | apply dr_keep | apply dr_drop))⟩
    · intro k ρ B hI
      obtain ⟨i, M, hp0, hp1, hp2, hp3, hkk1, hE12, hE3, hE10, hE11, hBA⟩ := hI
      refine tc_pre hBA.sat ?_
      clear hBA
      refine tc_env (d := 12) hE12 ?_; refine tc_env (d := 3) hE3 ?_; refine tc_env (d := 10) hE10 ?_; refine tc_env (d := 11) hE11 ?_
      clear hE12 hE3 hE10 hE11
      refine sr ?_; refine tv (o_lss rfl rfl) ?_; refine nq ?_; refine tc_seq ?_; refine tc_cond rfl (fun h => ?_) (fun h => ?_)
      · have hi : i < l.length := by simp at h; omega
        obtain ⟨x, hx⟩ : ∃ x, l[i] = x := ⟨_, rfl⟩
        have htk : l.take (i + 1) = l.take i ++ [x] := by rw [List.take_succ_eq_append_getElem hi, hx]
        have htm : (l.take (i + 1)).map Mk.id = (l.take i).map Mk.id ++ [x.id] := by rw [htk, List.map_append]; rfl
        refine tc_skip ?_; refine q_then_n ?_; refine tc_seq ?_; refine tc_block ?_; refine sr ?_; refine tv (o_ixP Try.underlying22 sz35 rfl rfl (by omega) (by repeat (first | exact nn_rs hr (fun _ => by rw [mcs_len]; omega) | apply Nn.left))) ?_; refine tv (o_ldPN (vs := (x).cells) a35 sz35 rfl (by repeat (first | exact hr | apply Rs.left)) (by rw [mcs_at (by omega), hx]) rfl (by decide)) ?_; refine tl_x rfl (o_alloc z35 rfl) ?_; rintro _ _ ⟨b5, rfl, rfl⟩; refine tl_u rfl (o_stUN (l' := x.cells) rfl (by repeat (first | with_reducible exact upd_here | with_reducible exact upd_pt | apply upd_left)) sz35 rfl rfl rfl (by show 3 ≤ 3; decide) rfl) ?_; refine nq ?_; refine tc_seq ?_; refine sr ?_; refine tv (o_loadN (vs := (x).cells) a35 sz35 rfl (by repeat (first | with_reducible exact has_here | with_reducible exact has_pt | apply has_left)) (by show 3 ≤ 3; decide) rfl) ?_; refine tl_c rfl (o_call bd42 rfl (right_c (m := x))) ?_; rintro _ _ ⟨rfl, rfl⟩; refine tv (o_not rfl) ?_; refine tlm ?_; refine tl_bool (d := 19) rfl (fun h => ?_) (fun h => ?_)
        · have hok : okM x = false := by simpa using h
          refine tk ?_; refine tk ?_; refine tk ?_; refine tk ?_; refine tv (o_pick_t rfl (by conv => lhs; whnf)) ?_; refine nq ?_; refine tc_cond_t rfl ?_; refine sr ?_; refine tla ?_; refine nq ?_; refine tc_ret ?_; refine q_then_r (q_block_r (q_then_r (q_then_r (q_block_r (q_then_r ?_))))); refine ⟨.int .i64 190, _, res1 rfl rfl, ?_, (by first | rw [may_bad h32 (hx ▸ List.getElem_mem hi) hok] | rw [may_dup h32 hi (by rw [hx]; exact hnd)]), rfl⟩; exact Dr.sat (by repeat (first | with_reducible exact dr_refl | apply dr_keep | apply dr_drop))
        · have hok : okM x = true := by simpa using h
          refine tlm ?_; refine tv (o_fieldAddr (o := 0) Try.underlying35 rfl rfl sz33 rfl) ?_; refine tv (by first | exact o_load p33 rfl (by repeat (first | with_reducible exact has_here | with_reducible exact has_pt | apply has_left)) rfl | exact o_loadC p33 rfl (by assumption)) ?_; refine tv (o_lookup (M := M) (ik := .u32) Try.underlying83 Try.underlying33 z4 rfl rfl (by repeat (first | with_reducible exact has_here | with_reducible exact has_pt | apply has_left))) ?_; refine tl_env (d := 23) (v := .bool (decide (x.id ∈ (l.take i).map Mk.id))) (by show (M.get ((x.id : Nat) : Int)).getD (.bool false) = _; rw [hp3]; by_cases e : x.id ∈ (l.take i).map Mk.id; (rw [if_pos e, decide_eq_true e]; rfl); (rw [if_neg e, decide_eq_false e]; rfl)) ?_; refine tv (o_pick_f rfl (by conv => lhs; whnf)) ?_; refine nq ?_; refine tc_cond rfl (fun h => ?_) (fun h => ?_)
          · have hnd : x.id ∈ (l.take i).map Mk.id := by first | exact of_decide_eq_true h | exact h | simpa using h
            refine sr ?_; refine tla ?_; refine nq ?_; refine tc_ret ?_; refine q_then_r (q_block_r (q_then_r (q_then_r (q_block_r (q_then_r ?_))))); refine ⟨.int .i64 190, _, res1 rfl rfl, ?_, (by first | rw [may_bad h32 (hx ▸ List.getElem_mem hi) hok] | rw [may_dup h32 hi (by rw [hx]; exact hnd)]), rfl⟩; exact Dr.sat (by repeat (first | with_reducible exact dr_refl | apply dr_keep | apply dr_drop))
          · have hnd : x.id ∉ (l.take i).map Mk.id := by first | exact of_decide_eq_false h | exact h | simpa using h
            refine tc_skip ?_; refine q_then_n ?_
            have hM2 : ∀ a : Nat, (M.put (x.id : Int) (.bool true)).get (a : Int) = if a ∈ (l.take (i + 1)).map Mk.id then some (.bool true) else none := fun a => by
              rw [MS.get_put, hp3 a, htm]
              by_cases e : x.id = a
              · subst e; rw [if_pos rfl, if_pos (by simp)]
              · rw [if_neg (by omega)]
                by_cases e2 : a ∈ (l.take i).map Mk.id
                · rw [if_pos e2, if_pos (by rw [List.mem_append]; exact .inl e2)]
                · rw [if_neg e2, if_neg (by rw [List.mem_append]; rintro (h1 | h1); exact e2 h1; simp at h1; omega)]
            refine tc_reg ?_; refine tlm ?_; refine tv (o_fieldAddr (o := 0) Try.underlying35 rfl rfl sz33 rfl) ?_; refine tv (by first | exact o_load p33 rfl (by repeat (first | with_reducible exact has_here | with_reducible exact has_pt | apply has_left)) rfl | exact o_loadC p33 rfl (by assumption)) ?_; refine tl_u rfl (o_mapUpdate (M' := M.put (x.id : Int) (.bool true)) (ik := .u32) Try.underlying83 Try.underlying33 rfl (by repeat (first | with_reducible exact upd_here | with_reducible exact upd_pt | apply upd_left)) rfl rfl rfl) ?_; refine tl_nil ?_; refine q_block_n (q_then_n ?_); refine tc_reg ?_; refine tv (by first | exact o_addI rfl rfl (by omega) | exact o_add rfl rfl) ?_; refine tlm ?_; refine nq ?_; exact ⟨_, by omega, i + 1, M.put (x.id : Int) (.bool true), by omega, by rw [htk, List.all_append, hp1]; simpa using hok, by rw [htm]; exact List.nodup_append.2 ⟨hp2, by simp, fun y hy z hz => by simp only [List.mem_singleton] at hz; subst hz; exact fun e => hnd (e ▸ hy)⟩, hM2, rfl, rfl, rfl, rfl, rfl, (by repeat (first | with_reducible exact dr_refl | apply dr_keep | apply dr_drop))⟩
      · try simp only [lv1, lv2, lv3, lv4, lv5, lv6, Bool.not_true, Bool.not_false] at h
        refine tc_exit ?_; refine q_then_e (q_then_e (q_block_x (q_then_n ?_))); refine sr ?_; refine tla ?_; refine nq ?_; refine tc_ret ?_
        have hi : n ≤ i := by simp at h; omega
        rw [List.take_of_length_le (by omega)] at hp1 hp2
        exact ⟨.int .i64 0, A, res1 rfl rfl, Dr.sat (by repeat (first | with_reducible exact dr_refl | apply dr_keep | apply dr_drop)), by rw [may_ok h32 hp1 hp2], rfl⟩
/-- What picks marks; K holds of memory where it may be called. -/
structure PrdF (gf : Nat) (cs : List Value) (K : SP → Prop) (pf : Mk → Bool) : Prop where
  body : bodyB Try.prog gf = true
  run : ∀ (A : SP) (_ : K A) (x : Mk), Fn Try.prog gf ([] ++ [Value.agg x.cells.toArray] ++ cs).toArray A (fun v B => v = .bool (pf x) ∧ A = B)
  left : ∀ (A X : SP), K A → K (A * X)
def ixF (pf : Mk → Bool) (l : List Mk) : Int := if l.any pf then ((l.findIdx pf : Nat) : Int) else -1
theorem ixF_hit {pf : Mk → Bool} {l : List Mk} {i : Nat} (hi : i < l.length) (h : ∀ x ∈ l.take i, pf x = false) (hp : pf l[i] = true) : ixF pf l = i := by
  unfold ixF
  rw [if_pos (List.any_eq_true.2 ⟨_, List.getElem_mem hi, hp⟩)]
  congr 1
  refine (List.findIdx_eq hi).2 ⟨hp, fun j hj => ?_⟩
  have : (l.take i)[j]'(by rw [List.length_take]; omega) ∈ l.take i := List.getElem_mem _
  rw [List.getElem_take] at this
  exact h _ this
theorem ixF_miss {pf : Mk → Bool} {l : List Mk} (h : ∀ x ∈ l, pf x = false) : ixF pf l = -1 := by
  unfold ixF
  rw [if_neg (by rw [List.any_eq_true]; rintro ⟨x, hx, hp⟩; rw [h x hx] at hp; cases hp)]
theorem ixf_c {A : SP} {a : Option Addr} {c n gf : Nat} {cs : List Value} {K : SP → Prop} {pf : Mk → Bool} {l : List Mk} (hP : PrdF gf cs K pf) (hK : K A) (hr : Rs A a (mcs l) := by repeat (first | assumption | with_reducible exact rs_sl | with_reducible exact rs_pt0 | exact rs_none | apply Rs.left)) (hm : l.length = n := by first | assumption | rfl) (hs : n ≤ 1125899906842624 := by omega) :
    Fn Try.prog 59 #[.slice a n c, .func (.func gf) [].toArray cs.toArray] (A) (fun r B => r = .int .i64 (ixF pf l) ∧ A = B) := by
  refine fn_enterW (args := [.slice a n c, .func (.func gf) [].toArray cs.toArray]) Try.func59 rfl Try.ntmps59 (by simp) ?_; refine sr ?_; refine tla ?_; refine nq ?_; refine tc_seq ?_; refine sr ?_; refine tlm ?_; refine tv (o_len Try.underlying22 rfl) ?_; refine tlm ?_; refine nq ?_; refine tc_block ?_; refine tc_loop (fun kk ρ BB => ∃ (i : Nat), (i ≤ n) ∧ (∀ x ∈ l.take i, pf x = false) ∧ kk = n - i ∧ ρ 8 = .int .i64 (i : Nat) ∧ ρ 0 = .slice a n c ∧ ρ 1 = .func (.func gf) [].toArray cs.toArray ∧ ρ 7 = .int .i64 (n : Nat) ∧ BB = A) (m := n - (0)) ?_ ?_
  · exact ⟨0, by omega, by simp, rfl, rfl, rfl, rfl, rfl, rfl⟩
  · intro k ρ B hI
    obtain ⟨i, hp0, hp1, hkk1, hE8, hE0, hE1, hE7, hBA⟩ := hI
    obtain rfl := hBA.symm
    refine tc_env (d := 8) hE8 ?_; refine tc_env (d := 0) hE0 ?_; refine tc_env (d := 1) hE1 ?_; refine tc_env (d := 7) hE7 ?_
    clear hE8 hE0 hE1 hE7
    refine sr ?_; refine tv (o_lss rfl rfl) ?_; refine nq ?_; refine tc_seq ?_; refine tc_cond rfl (fun h => ?_) (fun h => ?_)
    · have hi : i < l.length := by simp at h; omega
      refine tc_skip ?_; refine q_then_n ?_; refine tc_seq ?_; refine tc_block ?_; refine sr ?_; refine tlm ?_; refine tla ?_; refine nq ?_; refine sr ?_; refine tlm ?_; refine tlm ?_; refine tlm ?_; refine tv (o_ixP Try.underlying22 sz35 rfl rfl (by omega) (by repeat (first | exact nn_rs hr (fun _ => by rw [mcs_len]; omega) | apply Nn.left))) ?_; refine tv (o_ldPN (vs := (l[i]).cells) a35 sz35 rfl (by repeat (first | exact hr | apply Rs.left)) (mcs_at (by omega)) rfl (by decide)) ?_; refine tl_c rfl (o_dyn (hP.body) rfl rfl (hP.run _ hK l[i])) ?_; rintro _ _ ⟨rfl, rfl⟩; refine nq ?_; refine tc_cond rfl (fun h => ?_) (fun h => ?_)
      · have hb : pf l[i] = true := h
        refine sr ?_; refine tlm ?_; refine tla ?_; refine nq ?_; refine tc_ret ?_; refine q_block_r (q_then_r (q_then_r (q_block_r (q_then_r ?_)))); exact ⟨.int .i64 (i : Nat), A, res1 rfl rfl, fun _ _ h => h, by rw [ixF_hit hi hp1 hb], rfl⟩
      · have hb : pf l[i] = false := h
        refine tc_skip ?_; refine q_block_n (q_then_n ?_); refine tc_reg ?_; refine tv (by first | exact o_addI rfl rfl (by omega) | exact o_add rfl rfl) ?_; refine tlm ?_; refine nq ?_; exact ⟨_, by omega, i + 1, by omega, by rw [List.take_succ_eq_append_getElem hi]; intro x hx; rcases List.mem_append.1 hx with h1 | h1; exact hp1 x h1; rw [List.mem_singleton.1 h1]; exact hb, rfl, rfl, rfl, rfl, rfl, rfl⟩
    · try simp only [lv1, lv2, lv3, lv4, lv5, lv6, Bool.not_true, Bool.not_false] at h
      refine tc_exit ?_; refine q_then_e (q_then_e (q_block_x (q_then_n ?_))); refine sr ?_; refine tla ?_; refine nq ?_; refine tc_ret ?_
      have hi : n ≤ i := by simp at h; omega
      rw [List.take_of_length_le (by omega)] at hp1
      exact ⟨.int .i64 (-1), A, res1 rfl rfl, fun _ _ h => h, by rw [ixF_miss hp1], rfl⟩
theorem ctf_c {A : SP} {a : Option Addr} {c n gf : Nat} {cs : List Value} {K : SP → Prop} {pf : Mk → Bool} {l : List Mk} (hP : PrdF gf cs K pf) (hK : K A) (hr : Rs A a (mcs l) := by repeat (first | assumption | with_reducible exact rs_sl | with_reducible exact rs_pt0 | exact rs_none | apply Rs.left)) (hm : l.length = n := by first | assumption | rfl) (hs : n ≤ 1125899906842624 := by omega) :
    Fn Try.prog 40 #[.slice a n c, .func (.func gf) [].toArray cs.toArray] (A) (fun r B => r = .bool (l.any pf) ∧ A = B) := by
  refine fn_enterW (args := [.slice a n c, .func (.func gf) [].toArray cs.toArray]) Try.func40 rfl Try.ntmps40 (by simp) ?_; refine sr ?_; refine tla ?_; refine nq ?_; refine sr ?_; refine tlm ?_; refine tlm ?_; refine tl_c rfl (o_call bd59 rfl (ixf_c (l := l) hP hK)) ?_; rintro _ _ ⟨rfl, rfl⟩; refine tv (o_geq rfl rfl) ?_; refine tla ?_; refine nq ?_; refine tc_ret ?_; exact ⟨.bool (l.any pf), A, res1 rfl (by show Value.bool (decide (0 ≤ ixF pf l)) = _; unfold ixF; split <;> simp [*]), fun _ _ h => h, rfl, rfl⟩
theorem ck1_c {A : SP} {b : Nat} {x : Mk} {z : Int} (hh : Has A b (cl [.int .i64 z] 3)) :
    Fn Try.prog 41 #[.agg x.cells.toArray, .pointer (some ⟨b, 0, none⟩)] (A) (fun r B => r = .bool (decide (z < x.at_)) ∧ A = B) := by
  refine fn_enterW (args := [.agg x.cells.toArray, .pointer (some ⟨b, 0, none⟩)]) Try.func41 rfl Try.ntmps41 (by simp) ?_; refine sr ?_; refine tl_x rfl (o_box rfl rfl) ?_; rintro _ _ ⟨b2, rfl, rfl⟩; refine tla ?_; refine nq ?_; refine sr ?_; refine tv (o_fieldAddr (o := 1) Try.underlying35 rfl rfl sz3 rfl) ?_; refine tv (by first | exact o_load p3 rfl (by repeat (first | with_reducible exact has_here | with_reducible exact has_pt | apply has_left)) rfl | exact o_loadC p3 rfl (by assumption)) ?_; refine tv (o_load p3 rfl (by repeat (first | exact hh | apply has_left)) rfl) ?_; refine tv (o_gtr rfl rfl) ?_; refine tla ?_; refine nq ?_; refine tc_ret ?_; refine ⟨.bool (decide (z < x.at_)), _, res1 rfl rfl, ?_, rfl, rfl⟩; exact Dr.sat (by repeat (first | with_reducible exact dr_refl | apply dr_keep | apply dr_drop))
theorem wo1_c {A : SP} {b id : Nat} {x : Mk} (hh : Has A b (cl [.int .u32 (id : Nat)] 33)) :
    Fn Try.prog 61 #[.agg x.cells.toArray, .pointer (some ⟨b, 0, none⟩)] (A) (fun r B => r = .bool (decide (x.id = id)) ∧ A = B) := by
  refine fn_enterW (args := [.agg x.cells.toArray, .pointer (some ⟨b, 0, none⟩)]) Try.func61 rfl Try.ntmps61 (by simp) ?_; refine sr ?_; refine tl_x rfl (o_box rfl rfl) ?_; rintro _ _ ⟨b2, rfl, rfl⟩; refine tla ?_; refine nq ?_; refine sr ?_; refine tv (o_fieldAddr (o := 0) Try.underlying35 rfl rfl sz33 rfl) ?_; refine tv (by first | exact o_load p33 rfl (by repeat (first | with_reducible exact has_here | with_reducible exact has_pt | apply has_left)) rfl | exact o_loadC p33 rfl (by assumption)) ?_; refine tv (o_load p33 rfl (by repeat (first | exact hh | apply has_left)) rfl) ?_; refine tv (o_eqi rfl rfl) ?_; refine tla ?_; refine nq ?_; refine tc_ret ?_; exact ⟨.bool (decide (x.id = id)), A, res1 rfl (by show Value.bool (decide ((x.id : Int) = (id : Int))) = _; congr 1; rw [decide_eq_decide]; omega), Dr.sat (by repeat (first | with_reducible exact dr_refl | apply dr_keep | apply dr_drop)), rfl, rfl⟩
theorem prd_ck {b : Nat} {z : Int} : PrdF 41 [.pointer (some ⟨b, 0, none⟩)] (fun A => Has A b (cl [.int .i64 z] 3)) (fun x => decide (z < x.at_)) := by
  refine PrdF.mk bd41 (fun A h x => ?_) (fun A X h => ?_)
  · have h' : Has A b (cl [.int .i64 z] 3) := h
    show Fn Try.prog 41 #[.agg x.cells.toArray, .pointer (some ⟨b, 0, none⟩)] A _
    exact ck1_c h'
  · have h' : Has A b (cl [.int .i64 z] 3) := h
    exact has_left h'
theorem prd_wo {b id : Nat} : PrdF 61 [.pointer (some ⟨b, 0, none⟩)] (fun A => Has A b (cl [.int .u32 (id : Nat)] 33)) (fun x => decide (x.id = id)) := by
  refine PrdF.mk bd61 (fun A h x => ?_) (fun A X h => ?_)
  · have h' : Has A b (cl [.int .u32 (id : Nat)] 33) := h
    show Fn Try.prog 61 #[.agg x.cells.toArray, .pointer (some ⟨b, 0, none⟩)] A _
    exact wo1_c h'
  · have h' : Has A b (cl [.int .u32 (id : Nat)] 33) := h
    exact has_left h'
def checkS (l : List Mk) (z : Int) : Int := if mayS l ≠ 0 then mayS l else if l.any fun x => decide (z < x.at_) then 190 else 0
theorem Check_c {A : SP} {a : Option Addr} {c n : Nat} {l : List Mk} {z : Int} (hr : Rs A a (mcs l) := by repeat (first | assumption | with_reducible exact rs_sl | with_reducible exact rs_pt0 | exact rs_none | apply Rs.left)) (hm : l.length = n := by first | assumption | rfl) (hs : n ≤ 1125899906842624 := by omega) :
    Fn Try.prog 18 #[.slice a n c, .int .i64 z] (A) (fun r B => r = .int .i64 (checkS l z) ∧ A = B) := by
  refine fn_enterW (args := [.slice a n c, .int .i64 z]) Try.func18 rfl Try.ntmps18 (by simp) ?_; refine sr ?_; refine tl_x rfl (o_box rfl rfl) ?_; rintro _ _ ⟨b3, rfl, rfl⟩; refine tla ?_; refine nq ?_; refine tc_seq ?_; refine sr ?_; refine tlm ?_; refine tl_c rfl (o_call bd32 rfl (may_c (l := l))) ?_; rintro _ _ ⟨rfl, rfl⟩; refine tla ?_; refine nq ?_; refine sr ?_; refine tlm ?_; refine tv (o_nei rfl rfl) ?_; refine nq ?_; refine tc_cond rfl (fun h => ?_) (fun h => ?_)
  · have hne : mayS l ≠ 0 := by simpa using h
    refine sr ?_; refine tlm ?_; refine tla ?_; refine nq ?_; refine tc_ret ?_; refine q_then_r ?_; refine ⟨.int .i64 (mayS l), _, res1 rfl rfl, ?_, (by unfold checkS; rw [if_pos hne]), rfl⟩; exact Dr.sat (by repeat (first | with_reducible exact dr_refl | apply dr_keep | apply dr_drop))
  · have hne : mayS l = 0 := by simpa using h
    refine tc_skip ?_; refine q_then_n ?_; refine tc_seq ?_; refine sr ?_; refine tlm ?_; refine tv (o_makeFunc (fs := []) (cs := [.pointer (some ⟨b3, 0, none⟩)]) rfl rfl) ?_; refine tl_c rfl (o_call bd40 rfl (ctf_c (l := l) (prd_ck (b := b3) (z := z)) has_here)) ?_; rintro _ _ ⟨rfl, rfl⟩; refine nq ?_; refine tc_cond rfl (fun h => ?_) (fun h => ?_)
    · try simp only [lv1, lv2, lv3, lv4, lv5, lv6, Bool.not_true, Bool.not_false] at h
      refine sr ?_; refine tla ?_; refine nq ?_; refine tc_ret ?_; refine q_then_r ?_; refine ⟨.int .i64 190, _, res1 rfl rfl, ?_, (by unfold checkS; rw [if_neg (by simpa using hne), if_pos h]), rfl⟩; exact Dr.sat (by repeat (first | with_reducible exact dr_refl | apply dr_keep | apply dr_drop))
    · try simp only [lv1, lv2, lv3, lv4, lv5, lv6, Bool.not_true, Bool.not_false] at h
      refine tc_skip ?_; refine q_then_n ?_; refine sr ?_; refine tla ?_; refine nq ?_; refine tc_ret ?_; refine ⟨.int .i64 0, _, res1 rfl rfl, ?_, (by unfold checkS; rw [if_neg (by simpa using hne), if_neg (by rw [h]; decide)]), rfl⟩; exact Dr.sat (by repeat (first | with_reducible exact dr_refl | apply dr_keep | apply dr_drop))
end Go.Vl

set_option linter.unusedVariables false
set_option linter.unusedSimpArgs false
namespace Go.Vl
open Go Go.Proofs
theorem sl_takeM {k n c l : Nat} {a : Option Addr} {xs : List Value} {R : SP} {g : Gh} {w : World} (hs : sat g w (R * Sl k (.slice a n c) n xs)) (hl : l ≤ n) : sat g w (R * Sl k (.slice a l c) l (xs.take (l * k))) := by
  have hlk : l * k ≤ n * k := Nat.mul_le_mul_right k hl
  obtain ⟨h1, ⟨e1, e2, e3⟩ | ⟨b, off, cap, L, E, e1, h2, h3, h4, hs'⟩⟩ := sl_iff.1 hs
  · obtain rfl : l = 0 := by omega
    simp only [Value.slice.injEq] at e1
    obtain ⟨rfl, _, rfl⟩ := e1
    rw [Nat.zero_mul, List.take_zero]
    exact sl_nil e3
  · simp only [Value.slice.injEq] at e1
    obtain ⟨rfl, _, rfl⟩ := e1
    refine sl_iff.2 ⟨by rw [List.length_take, h1]; omega, .inr ⟨b, off, _, L, E, rfl, by omega, h3, ?_, hs'⟩⟩
    rw [← h4, List.take_take, Nat.min_eq_left hlk]
theorem zero_one {zc : Array Value} (h : ∀ v ∈ zc.toList, oneC v = true) (m : Nat) : ∀ v ∈ (Builtin.zeroCells zc m).toList, oneC v = true := fun v hv => by
  unfold Builtin.zeroCells at hv
  simp only [Array.toList_map, List.mem_map, Array.mem_toList_iff, Array.mem_range] at hv
  obtain ⟨i, hi, rfl⟩ := hv
  have h0 : 0 < zc.size := by
    rcases Nat.eq_zero_or_pos zc.size with e | e
    · rw [e] at hi; omega
    · exact e
  have hm : i % zc.size < zc.size := Nat.mod_lt _ h0
  rw [getElem!_pos zc _ hm]
  exact h _ (by simp)
section
variable {P : Program} {n : Nat} {ρ : Env} {A : SP} {dst : Option Tmp} {ty : TypeId} {pos : String} {after : Array Edge} {gd : Option (Nat × Bool)}
theorem o_clr {t e : TypeId} {x : Operand} {k N c i : Nat} {a : Option Addr} {z : Value} {xs : List Value} {R : SP} {C : SP → SP} (hu : P.underlying t = some (.slice e)) (hz : zeroE P e = some z) (hzk : z.cells.size = k) (hz1 : ∀ v ∈ z.cells.toList, oneC v = true)
    (hx : ev n ρ x = .slice (cutAddr a c i k) (N - i) (c - i)) (hf : Ct A (Sl k (.slice a N c) N xs) R C) (hi : i < N) :
    OpX P n ρ A ⟨dst, .call { callee := .builtin .clear, args := #[x], argTypes := #[t] }, ty, pos, after, gd⟩ (fun v B => ∃ ys, v = .tuple #[] ∧ ys.take (i * k) = xs.take (i * k) ∧ B = C (Sl k (.slice a N c) N ys)) := fun g w hs => by
  obtain ⟨rfl, hC⟩ := hf
  obtain ⟨h1, ⟨e1, e2, e3⟩ | ⟨b, off, cap, L, E, e1, h2, h3, h4, hs'⟩⟩ := sl_iff.1 hs
  · simp only [Value.slice.injEq] at e1; omega
  simp only [Value.slice.injEq] at e1
  obtain ⟨rfl, _, rfl⟩ := e1
  have hca : cutAddr (some ⟨b, off, none⟩) c i k = some ⟨b, off + i * k, none⟩ := by unfold cutAddr; rw [if_neg (by omega)]; simp [addr_add]
  rw [hca] at hx
  have hzl : (Builtin.zeroCells z.cells (N - i)).toList.length = (N - i) * k := by rw [Array.length_toList, size_zeroCells, hzk]
  have hNk : i * k + (N - i) * k = N * k := by rw [← Nat.add_mul]; congr 1; omega
  have hck : N * k ≤ c * k := Nat.mul_le_mul_right k h2
  obtain ⟨w', hst, hh, g1, g2, g3⟩ := run_storeCells (P := P) (off := off + i * k) (Builtin.zeroCells z.cells (N - i)).toList 0 L w (has_here g w hs') (by omega) (zero_one hz1 _)
  have hst' : (storeCells ⟨b, off + i * k, none⟩ (Builtin.zeroCells z.cells (N - i)).toList).run P w = .ok () w' := by simpa using hst
  have hu2 : Upd (R * pt b (cl L E)) b (cl L E) (cl (splice L (off + i * k) (Builtin.zeroCells z.cells (N - i)).toList) E) (R * pt b (cl (splice L (off + i * k) (Builtin.zeroCells z.cells (N - i)).toList) E)) := upd_here
  have hs2 := hu2.sat hs' (fun j => by rw [hh j]; rfl) g1 g2 g3
  refine ⟨.tuple #[], w', C (Sl k (.slice (some ⟨b, off, none⟩) N c) N (((splice L (off + i * k) (Builtin.zeroCells z.cells (N - i)).toList).drop off).take (N * k))), ?_, ?_, _, rfl, ?_, rfl⟩
  · simp only [execOp, resolve, List.map_toArray, List.map_cons, List.map_nil, hx]
    rw [run_bind (w' := w) (a := ⟨.builtin .clear #[t] ty _, #[.slice (some ⟨b, off + i * k, none⟩) (N - i) (c - i)]⟩) (by rfl)]
    simp only [invoke, builtin]
    rw [run_bind (w' := w') (a := .tuple #[])]
    · rfl
    obtain ⟨m, hm⟩ : ∃ m, N - i = m + 1 := ⟨N - i - 1, by omega⟩
    rw [hm] at hst' ⊢
    unfold Builtin.clear_
    simp only [List.getElem?_toArray, List.getElem?_cons_zero]
    rw [run_bind (run_und hu)]
    simp only []
    rw [run_bind (run_zeroV hz), run_bind hst']; rfl
  · rw [hC]
    refine sl_iff.2 ⟨by rw [List.length_take, List.length_drop, splice_length]; omega, .inr ⟨b, off, c, _, E, rfl, h2, by rw [splice_length]; exact h3, rfl, hs2⟩⟩
  · have hik : i * k ≤ N * k := Nat.mul_le_mul_right k (by omega)
    rw [← h4, List.take_take, List.take_take, Nat.min_eq_left hik]
    apply List.ext_getElem?
    intro j
    rw [List.getElem?_take, List.getElem?_take]
    split
    · rw [List.getElem?_drop, List.getElem?_drop, splice_getElem? _ _ _ _ (by omega), if_neg (by omega)]
    · rfl
end
theorem flt_all {pf : Mk → Bool} {l : List Mk} (h : ∀ x ∈ l, pf x = false) : l.filter (fun x => !pf x) = l := List.filter_eq_self.2 fun x hx => by rw [h x hx]; rfl
theorem ixF_neg {pf : Mk → Bool} {l : List Mk} (h : ixF pf l = -1) : ∀ x ∈ l, pf x = false := by
  unfold ixF at h
  split at h
  · omega
  · rename_i hn
    intro x hx
    cases hp : pf x with
    | false => rfl
    | true => exact absurd (List.any_eq_true.2 ⟨x, hx, hp⟩) hn
theorem ixF_pos {pf : Mk → Bool} {l : List Mk} (h : ixF pf l ≠ -1) : ∃ i, ∃ hi : i < l.length, ixF pf l = (i : Nat) ∧ pf l[i] = true ∧ ∀ x ∈ l.take i, pf x = false := by
  unfold ixF at h ⊢
  split at h
  · rename_i hp
    rw [if_pos hp]
    have hi := List.findIdx_lt_length.2 (by simpa [List.any_eq_true] using hp)
    refine ⟨l.findIdx pf, hi, rfl, List.findIdx_getElem (w := hi), fun x hx => ?_⟩
    obtain ⟨j, hj, rfl⟩ := List.mem_iff_getElem.1 hx
    rw [List.length_take] at hj
    rw [List.getElem_take]
    have := List.not_of_lt_findIdx (p := pf) (xs := l) (i := j) (by omega)
    simpa using this
  · exact absurd rfl h
attribute [local irreducible] Sl pt ro SlB
set_option maxRecDepth 20000 in
set_option maxHeartbeats 2000000 in
theorem dlf_f (F : SP) {a : Option Addr} {c n gf : Nat} {cs : List Value} {K : SP → Prop} {pf : Mk → Bool} {d : List Mk} (hP : PrdF gf cs K pf) (hK : K F) (hd : d.length = n) (hs : n ≤ 5864062014800) :
    Fn Try.prog 60 #[.slice a n c, .func (.func gf) [].toArray cs.toArray] (F * Sl 3 (.slice a n c) n (mcs (d))) (fun r B => ∃ m, r = .slice a m c ∧ m = (d.filter fun x => !pf x).length ∧ B = F * Sl 3 (.slice a m c) m (mcs (d.filter fun x => !pf x))) := by
  refine fn_enterW (args := [.slice a n c, .func (.func gf) [].toArray cs.toArray]) Try.func60 rfl Try.ntmps60 (by simp) ?_; refine tc_have (fun _ _ h => ct_cap ct_here h) fun hnc => ?_; refine sr ?_; refine tla ?_; refine nq ?_; refine sr ?_; refine tlm ?_; refine tlm ?_; refine tl_c rfl (o_call bd59 rfl (ixf_c (l := d) hP (hP.left _ _ hK) (hr := rs_sl))) ?_; rintro _ _ ⟨rfl, rfl⟩; refine tla ?_; refine nq ?_; refine tc_seq ?_; refine sr ?_; refine tlm ?_; refine tv (o_eqi rfl rfl) ?_; refine nq ?_; refine tc_cond rfl (fun h => ?_) (fun h => ?_)
  · have hix : ixF pf d = -1 := by simpa using h
    refine sr ?_; refine tlm ?_; refine tla ?_; refine nq ?_; refine tc_ret ?_; refine q_then_r ?_
    have e0 := flt_all (ixF_neg hix)
    exact ⟨.slice a n c, F * Sl 3 (.slice a n c) n (mcs (d)), res1 rfl rfl, fun _ _ h => h, n, rfl, by rw [e0, hd], by rw [e0]⟩
  · obtain ⟨i0, hi0, hix, hp0_, hpre⟩ := ixF_pos (by simpa using h : ixF pf d ≠ -1)
    refine tc_skip ?_; refine q_then_n ?_; refine tc_seq ?_; refine tc_seq ?_; refine tc_env (d := 5) (v := .int .i64 (i0 : Nat)) (congrArg (Value.int .i64) hix) ?_; refine tc_reg ?_; refine tlm ?_; refine tv (by first | exact o_addI rfl rfl (by omega) | exact o_add rfl rfl) ?_; refine tla ?_; refine nq ?_; refine tc_block ?_; refine tc_loop (fun kk ρ BB => ∃ (i : Nat) (j : Nat) (d1 : List Mk), (i < j) ∧ (j ≤ n) ∧ (d1.length = n) ∧ (d1.take i = (d.take j).filter fun x => !pf x) ∧ (d1.drop j = d.drop j) ∧ kk = n - j ∧ ρ 5 = .int .i64 (i : Nat) ∧ ρ 6 = .int .i64 (j : Nat) ∧ ρ 0 = .slice a n c ∧ ρ 1 = .func (.func gf) [].toArray cs.toArray ∧ Dr BB (F * Sl 3 (.slice a n c) n (mcs (d1)))) (m := n - (i0 + 1)) ?_ ?_
    · exact ⟨i0, i0 + 1, d, by omega, by omega, hd, by rw [List.take_succ_eq_append_getElem hi0, List.filter_append, flt_all hpre, List.filter_cons_of_neg (by rw [hp0_]; decide)]; simp, rfl, rfl, rfl, rfl, rfl, rfl, (by repeat (first | with_reducible exact dr_refl | apply dr_keep | apply dr_drop))⟩
    · intro k ρ B hI
      obtain ⟨i, j, d1, hp0, hp1, hp2, hp3, hp4, hkk1, hE5, hE6, hE0, hE1, hBA⟩ := hI
      refine tc_pre hBA.sat ?_
      clear hBA
      refine tc_env (d := 5) hE5 ?_; refine tc_env (d := 6) hE6 ?_; refine tc_env (d := 0) hE0 ?_; refine tc_env (d := 1) hE1 ?_
      clear hE5 hE6 hE0 hE1
      refine tc_seq ?_; refine sr ?_; refine tlm ?_; refine tlm ?_; refine tv (o_len Try.underlying22 rfl) ?_; refine tv (o_lss rfl rfl) ?_; refine nq ?_; refine tc_cond rfl (fun h => ?_) (fun h => ?_)
      · have hj : j < n := by simp at h; omega
        have hjd : d1[j]'(by omega) = d[j]'(by omega) := by
          have h1 := congrArg (fun l : List Mk => l[0]?) hp4
          simp only [List.getElem?_drop, Nat.add_zero] at h1
          rw [List.getElem?_eq_getElem (by omega), List.getElem?_eq_getElem (by omega)] at h1
          exact Option.some.inj h1
        obtain ⟨x, hx⟩ : ∃ x, d[j]'(by omega) = x := ⟨_, rfl⟩
        have hdr : d1.drop (j + 1) = d.drop (j + 1) := by
          have h1 := congrArg (List.drop 1) hp4
          rwa [List.drop_drop, List.drop_drop] at h1
        have htk : d.take (j + 1) = d.take j ++ [x] := by rw [List.take_succ_eq_append_getElem (by omega), hx]
        refine tc_skip ?_; refine q_then_n ?_; refine tc_seq ?_; refine tc_block ?_; refine sr ?_; refine tlm ?_; refine tlm ?_; refine tv (o_ixP Try.underlying22 sz35 rfl rfl (by omega) (by repeat (first | exact nn_sl (by decide) | apply Nn.left))) ?_; refine tv (o_ldPN (vs := x.cells) a35 sz35 rfl (by repeat (first | assumption | with_reducible exact rs_sl | with_reducible exact rs_pt0 | exact rs_none | apply Rs.left)) (by rw [mcs_at (by omega), hjd, hx]) rfl (by decide)) ?_; refine tl_x rfl (o_alloc z35 rfl) ?_; rintro _ _ ⟨b7, rfl, rfl⟩; refine tl_u rfl (o_stUN (l' := x.cells) rfl (by repeat (first | with_reducible exact upd_here | with_reducible exact upd_pt | apply upd_left)) sz35 rfl rfl rfl (by show 3 ≤ 3; decide) rfl) ?_; refine nq ?_; refine sr ?_; refine tlm ?_; refine tv (o_loadN (vs := (x).cells) a35 sz35 rfl (by repeat (first | with_reducible exact has_here | with_reducible exact has_pt | apply has_left)) (by show 3 ≤ 3; decide) rfl) ?_; refine tl_c rfl (o_dyn (hP.body) rfl rfl (hP.run _ (by repeat (first | exact hK | apply hP.left)) x)) ?_; rintro _ _ ⟨rfl, rfl⟩; refine tv (o_not rfl) ?_; refine nq ?_; refine tc_cond rfl (fun h => ?_) (fun h => ?_)
        · have hb : pf x = false := by simpa using h
          have hT : (d1.set i x).take (i + 1) = (d.take (j + 1)).filter fun x => !pf x := by rw [htk, List.filter_append, ← hp3, List.filter_cons_of_pos (by rw [hb]; rfl), List.take_succ_eq_append_getElem (by rw [List.length_set]; omega), List.take_set_of_le (Nat.le_refl _), List.getElem_set_self]; rfl
          have hL : (d1.set i x).length = n := by rw [List.length_set]; exact hp2
          have hD : (d1.set i x).drop (j + 1) = d.drop (j + 1) := by rw [List.drop_set_of_lt (by omega)]; exact hdr
          refine sr ?_; refine tlm ?_; refine tlm ?_; refine tv (o_loadN (vs := (x).cells) a35 sz35 rfl (by repeat (first | with_reducible exact has_here | with_reducible exact has_pt | apply has_left)) (by show 3 ≤ 3; decide) rfl) ?_; refine tv (o_ixP Try.underlying22 sz35 rfl rfl (by omega) (by repeat (first | exact nn_sl (by decide) | apply Nn.left))) ?_; refine tl_u rfl (o_stPN (vs := x.cells) (ys := mcs (d1.set i x)) sz35 rfl rfl rfl rfl (by decide) (by repeat (first | with_reducible exact ct_here | apply ct_left)) (by omega) (mcs_spl (by omega))) ?_; refine nq ?_; refine tc_reg ?_; refine tlm ?_; refine tv (by first | exact o_addI rfl rfl (by omega) | exact o_add rfl rfl) ?_; refine tl_env (d := 35) (v := .int .i64 ((i + 1 : Nat) : Int)) (rfl) ?_; refine tla ?_; refine tl_nil ?_; refine q_block_n (q_then_n ?_); refine tc_reg ?_; refine tlm ?_; refine tv (by first | exact o_addI rfl rfl (by omega) | exact o_add rfl rfl) ?_; refine tla ?_; refine nq ?_; exact ⟨_, by omega, _, j + 1, _, by omega, by omega, by exact hL, by exact hT, by exact hD, rfl, rfl, rfl, rfl, rfl, (by repeat (first | with_reducible exact dr_refl | apply dr_keep | apply dr_drop))⟩
        · have hb : pf x = true := by simpa using h
          have hT : d1.take i = (d.take (j + 1)).filter fun x => !pf x := by rw [htk, List.filter_append, ← hp3, List.filter_cons_of_neg (by rw [hb]; decide)]; simp
          have hL := hp2
          have hD := hdr
          refine tc_skip ?_; refine q_block_n (q_then_n ?_); refine tc_reg ?_; refine tlm ?_; refine tv (by first | exact o_addI rfl rfl (by omega) | exact o_add rfl rfl) ?_; refine tla ?_; refine nq ?_; exact ⟨_, by omega, _, j + 1, _, by omega, by omega, by exact hL, by exact hT, by exact hD, rfl, rfl, rfl, rfl, rfl, (by repeat (first | with_reducible exact dr_refl | apply dr_keep | apply dr_drop))⟩
      · try simp only [lv1, lv2, lv3, lv4, lv5, lv6, Bool.not_true, Bool.not_false] at h
        refine tc_exit ?_; refine q_then_e (q_then_e (q_block_x (q_then_n ?_))); refine sr ?_; refine tlm ?_; refine tlm ?_; refine tv (o_slice (l := i) (h := n) Try.underlying22 sz35 rfl (bnd_nat rfl) bnd_none (by omega) (by omega)) ?_; refine tl_env (d := 38) (v := .slice (cutAddr a c i 3) (n - i) (c - i)) (rfl) ?_; refine tl_x rfl (o_clr (k := 3) (N := n) (c := c) (a := a) (i := i) Try.underlying22 z35 rfl (by intro v hv; simp only [Value.cells, List.mem_cons, List.not_mem_nil, or_false] at hv; rcases hv with rfl | rfl | rfl <;> rfl) rfl (by repeat (first | with_reducible exact ct_here | apply ct_left)) (by omega)) ?_; rintro _ _ ⟨ys, rfl, hys, rfl⟩; refine nq ?_; refine sr ?_; refine tlm ?_; refine tlm ?_; refine tv (o_slice (l := 0) (h := i) Try.underlying22 sz35 rfl bnd_none (bnd_nat rfl) (by omega) (by omega)) ?_; refine tl_env (d := 41) (v := .slice a i c) (by show Value.slice (cutAddr _ _ 0 3) (i - 0) (c - 0) = _; rw [show cutAddr a c 0 3 = a by unfold cutAddr; cases a <;> simp [Addr.add]]; rfl) ?_; refine tla ?_; refine nq ?_; refine tc_ret ?_
        obtain rfl : j = n := by simp at h; omega
        rw [List.take_of_length_le (show d.length ≤ j by omega)] at hp3
        exact ⟨.slice a i c, F * Sl 3 (.slice a i c) i (mcs (d.filter fun x => !pf x)), res1 rfl rfl, fun _ _ h => by have h2 := sl_takeM h (show i ≤ j by omega); rw [hys, mcs_take, hp3] at h2; exact h2, i, rfl, by rw [← hp3, List.length_take]; omega, rfl⟩
def outM (id : Nat) (l : List Mk) : List Mk := l.filter fun x => !decide (x.id = id)
def setS (l : List Mk) (m : Mk) : List Mk × Int := if mayS l ≠ 0 then ([], mayS l) else if okM m = false then ([], 190) else if (outM m.id l).length = 32 then ([], 191) else (srt (ltc cId) (outM m.id l ++ [m]), 0)
def unsetS (l : List Mk) (id : Nat) : List Mk × Int := if mayS l ≠ 0 then ([], mayS l) else if (outM id l).length = l.length then ([], 190) else (srt (ltc cId) (outM id l), 0)
theorem without_c {A : SP} {a : Option Addr} {c n : Nat} {l : List Mk} {id : Nat} (hr : Rs A a (mcs l) := by repeat (first | assumption | with_reducible exact rs_sl | with_reducible exact rs_pt0 | exact rs_none | apply Rs.left)) (hm : l.length = n := by first | assumption | rfl) (hs : n ≤ 5864062014800 := by omega) :
    Fn Try.prog 43 #[.slice a n c, .int .u32 (id : Nat)] (A) (fun r B => ∃ a2 m c2, r = .slice a2 m c2 ∧ m = (outM id l).length ∧ B = A * Sl 3 (.slice a2 m c2) m (mcs (outM id l))) := by
  refine fn_enterW (args := [.slice a n c, .int .u32 (id : Nat)]) Try.func43 rfl Try.ntmps43 (by simp) ?_; refine sr ?_; refine tl_x rfl (o_box rfl rfl) ?_; rintro _ _ ⟨b3, rfl, rfl⟩; refine tla ?_; refine nq ?_; refine sr ?_; refine tlm ?_; refine tl_c rfl (o_call bd55 rfl (CloneM_c (l := l))) ?_; rintro _ _ ⟨a6, c6, rfl, hc6, rfl⟩; refine tv (o_makeFunc (fs := []) (cs := [.pointer (some ⟨b3, 0, none⟩)]) rfl rfl) ?_; refine tl_c rfl (o_call bd60 rfl (dlf_f (A * pt b3 (cl [.int .u32 (id : Nat)] 33)) (d := l) (prd_wo (b := b3) (id := id)) has_here hm hs)) ?_; rintro _ _ ⟨m8, rfl, hm8, rfl⟩; refine tla ?_; refine nq ?_; refine tc_ret ?_; exact ⟨.slice a6 m8 c6, A * Sl 3 (.slice a6 m8 c6) m8 (mcs (outM id l)), res1 rfl rfl, Dr.sat (by repeat (first | with_reducible exact dr_refl | apply dr_keep | apply dr_drop)), a6, m8, c6, rfl, hm8, rfl⟩
set_option maxRecDepth 20000 in
set_option maxHeartbeats 2000000 in
theorem Set_c {A : SP} {a : Option Addr} {c n : Nat} {l : List Mk} {m : Mk} (hr : Rs A a (mcs l) := by repeat (first | assumption | with_reducible exact rs_sl | with_reducible exact rs_pt0 | exact rs_none | apply Rs.left)) (hm : l.length = n := by first | assumption | rfl) (hs : n ≤ 5864062014800 := by omega) :
    Fn Try.prog 21 #[.slice a n c, .agg m.cells.toArray] (A) (fun r B => ∃ a2 c2, r = .tuple #[.slice a2 (setS l m).1.length c2, .int .i64 (setS l m).2] ∧ (setS l m).1.length ≤ c2 ∧ B = A * Sl 3 (.slice a2 (setS l m).1.length c2) (setS l m).1.length (mcs (setS l m).1)) := by
  refine fn_enterW (args := [.slice a n c, .agg m.cells.toArray]) Try.func21 rfl Try.ntmps21 (by simp) ?_; refine sr ?_; refine tl_x rfl (o_box rfl rfl) ?_; rintro _ _ ⟨b3, rfl, rfl⟩; refine tla ?_; refine tla ?_; refine nq ?_; refine tc_seq ?_; refine sr ?_; refine tlm ?_; refine tl_c rfl (o_call bd32 rfl (may_c (l := l))) ?_; rintro _ _ ⟨rfl, rfl⟩; refine tla ?_; refine nq ?_; refine sr ?_; refine tlm ?_; refine tv (o_nei rfl rfl) ?_; refine nq ?_; refine tc_cond rfl (fun h => ?_) (fun h => ?_)
  · have hne : mayS l ≠ 0 := by simpa using h
    refine sr ?_; refine tlm ?_; refine tla ?_; refine tla ?_; refine nq ?_; refine tc_ret ?_; refine q_then_r ?_
    have e0 : setS l m = ([], mayS l) := by unfold setS; rw [if_pos hne]
    rw [e0]
    exact ⟨.tuple #[.slice none 0 0, .int .i64 (mayS l)], A * Sl 3 (.slice none 0 0) 0 [], res2 rfl rfl rfl, fun _ _ h => sl_nil (Dr.sat (by repeat (first | with_reducible exact dr_refl | apply dr_keep | apply dr_drop)) _ _ h), none, 0, rfl, Nat.le_refl _, rfl⟩
  · have hne : mayS l = 0 := by simpa using h
    have h32 := (may_zero hne).1
    refine tc_skip ?_; refine q_then_n ?_; refine tc_seq ?_; refine sr ?_; refine tv (o_loadN (vs := (m).cells) a35 sz35 rfl (by repeat (first | with_reducible exact has_here | with_reducible exact has_pt | apply has_left)) (by show 3 ≤ 3; decide) rfl) ?_; refine tl_c rfl (o_call bd42 rfl (right_c (m := m))) ?_; rintro _ _ ⟨rfl, rfl⟩; refine tv (o_not rfl) ?_; refine nq ?_; refine tc_cond rfl (fun h => ?_) (fun h => ?_)
    · have hok : okM m = false := by simpa using h
      refine sr ?_; refine tla ?_; refine tla ?_; refine nq ?_; refine tc_ret ?_; refine q_then_r ?_
      have e0 : setS l m = ([], 190) := by unfold setS; rw [if_neg (by simpa using hne), if_pos hok]
      rw [e0]
      exact ⟨.tuple #[.slice none 0 0, .int .i64 (190)], A * Sl 3 (.slice none 0 0) 0 [], res2 rfl rfl rfl, fun _ _ h => sl_nil (Dr.sat (by repeat (first | with_reducible exact dr_refl | apply dr_keep | apply dr_drop)) _ _ h), none, 0, rfl, Nat.le_refl _, rfl⟩
    · have hok : okM m = true := by simpa using h
      refine tc_skip ?_; refine q_then_n ?_; refine sr ?_; refine tlm ?_; refine tv (o_fieldAddr (o := 0) Try.underlying35 rfl rfl sz33 rfl) ?_; refine tv (by first | exact o_load p33 rfl (by repeat (first | with_reducible exact has_here | with_reducible exact has_pt | apply has_left)) rfl | exact o_loadC p33 rfl (by assumption)) ?_; refine tl_c rfl (o_call bd43 rfl (without_c (l := l) (id := m.id))) ?_; rintro _ _ ⟨a19, m19, c19, rfl, hm19, rfl⟩; refine tla ?_; refine nq ?_; refine tc_seq ?_; refine sr ?_; refine tlm ?_; refine tv (o_len Try.underlying22 rfl) ?_; refine tv (o_eqi rfl rfl) ?_; refine nq ?_; refine tc_cond rfl (fun h => ?_) (fun h => ?_)
      · have h3 : (outM m.id l).length = 32 := by rw [← hm19]; first | omega | (simp at h; omega)
        refine sr ?_; refine tla ?_; refine tla ?_; refine nq ?_; refine tc_ret ?_; refine q_then_r ?_
        have e0 : setS l m = ([], 191) := by unfold setS; rw [if_neg (by simpa using hne), if_neg (by rw [hok]; decide), if_pos h3]
        rw [e0]
        exact ⟨.tuple #[.slice none 0 0, .int .i64 (191)], A * Sl 3 (.slice none 0 0) 0 [], res2 rfl rfl rfl, fun _ _ h => sl_nil (Dr.sat (by repeat (first | with_reducible exact dr_refl | apply dr_keep | apply dr_drop)) _ _ h), none, 0, rfl, Nat.le_refl _, rfl⟩
      · have h3 : (outM m.id l).length ≠ 32 := by rw [← hm19]; first | omega | (simp at h; omega)
        have hol : (outM m.id l).length ≤ l.length := List.length_filter_le _ _
        refine tc_skip ?_; refine q_then_n ?_; refine sr ?_; refine tlm ?_; refine tv (o_loadN (vs := (m).cells) a35 sz35 rfl (by repeat (first | with_reducible exact has_here | with_reducible exact has_pt | apply has_left)) (by show 3 ≤ 3; decide) rfl) ?_; refine tl_x rfl (o_buildSliceK (k := 3) (l := m.cells) Try.underlying22 sz35 z35 rfl rfl (by decide)) ?_; rintro _ _ ⟨b25, rfl, rfl⟩; refine tl_x rfl (o_apB Try.underlying22 Try.underlying22 sz35 by35 z35 rfl (by decide) (by decide) rfl rfl rfl (by repeat (first | with_reducible exact ct_here | apply ct_left)) rfl rfl (by omega) (show _ = mcs (outM m.id l ++ [m]) by rw [mcs_append]; rfl)) ?_; rintro _ _ ⟨a26, c26, rfl, hc26, rfl⟩; refine tl_c rfl (o_call bd33 rfl (ordered_c (l := outM m.id l ++ [m]) ordId cId_swo (hr := rs_sl) (hm := by rw [List.length_append, hm19]; rfl))) ?_; rintro _ _ ⟨a27, c27, rfl, hc27, rfl⟩; refine tla ?_; refine tla ?_; refine nq ?_; refine tc_ret ?_
        have e0 : setS l m = (srt (ltc cId) (outM m.id l ++ [m]), 0) := by unfold setS; rw [if_neg (by simpa using hne), if_neg (by rw [hok]; decide), if_neg h3]
        rw [e0]
        have el : (srt (ltc cId) (outM m.id l ++ [m])).length = m19 + 1 := by rw [srt_length cId_swo, List.length_append, hm19]; rfl
        exact ⟨.tuple #[.slice a27 (m19 + 1) c27, .int .i64 0], A * Sl 3 (.slice a27 (m19 + 1) c27) (m19 + 1) (mcs (srt (ltc cId) (outM m.id l ++ [m]))), res2 rfl rfl rfl, Dr.sat (by repeat (first | with_reducible exact dr_refl | apply dr_keep | apply dr_drop)), a27, c27, by rw [el], by rw [el]; exact hc27, by rw [el]⟩
set_option maxRecDepth 20000 in
set_option maxHeartbeats 2000000 in
theorem Unset_c {A : SP} {a : Option Addr} {c n : Nat} {l : List Mk} {id : Nat} (hr : Rs A a (mcs l) := by repeat (first | assumption | with_reducible exact rs_sl | with_reducible exact rs_pt0 | exact rs_none | apply Rs.left)) (hm : l.length = n := by first | assumption | rfl) (hs : n ≤ 5864062014800 := by omega) :
    Fn Try.prog 23 #[.slice a n c, .int .u32 (id : Nat)] (A) (fun r B => ∃ a2 c2, r = .tuple #[.slice a2 (unsetS l id).1.length c2, .int .i64 (unsetS l id).2] ∧ (unsetS l id).1.length ≤ c2 ∧ B = A * Sl 3 (.slice a2 (unsetS l id).1.length c2) (unsetS l id).1.length (mcs (unsetS l id).1)) := by
  refine fn_enterW (args := [.slice a n c, .int .u32 (id : Nat)]) Try.func23 rfl Try.ntmps23 (by simp) ?_; refine sr ?_; refine tla ?_; refine tla ?_; refine nq ?_; refine tc_seq ?_; refine sr ?_; refine tlm ?_; refine tl_c rfl (o_call bd32 rfl (may_c (l := l))) ?_; rintro _ _ ⟨rfl, rfl⟩; refine tla ?_; refine nq ?_; refine sr ?_; refine tlm ?_; refine tv (o_nei rfl rfl) ?_; refine nq ?_; refine tc_cond rfl (fun h => ?_) (fun h => ?_)
  · have hne : mayS l ≠ 0 := by simpa using h
    refine sr ?_; refine tlm ?_; refine tla ?_; refine tla ?_; refine nq ?_; refine tc_ret ?_; refine q_then_r ?_
    have e0 : unsetS l id = ([], mayS l) := by unfold unsetS; rw [if_pos hne]
    rw [e0]
    exact ⟨.tuple #[.slice none 0 0, .int .i64 (mayS l)], A * Sl 3 (.slice none 0 0) 0 [], res2 rfl rfl rfl, fun _ _ h => sl_nil (Dr.sat (by repeat (first | with_reducible exact dr_refl | apply dr_keep | apply dr_drop)) _ _ h), none, 0, rfl, Nat.le_refl _, rfl⟩
  · have hne : mayS l = 0 := by simpa using h
    have h32 := (may_zero hne).1
    refine tc_skip ?_; refine q_then_n ?_; refine sr ?_; refine tlm ?_; refine tlm ?_; refine tl_c rfl (o_call bd43 rfl (without_c (l := l) (id := id))) ?_; rintro _ _ ⟨a15, m15, c15, rfl, hm15, rfl⟩; refine tla ?_; refine nq ?_; refine tc_seq ?_; refine sr ?_; refine tlm ?_; refine tv (o_len Try.underlying22 rfl) ?_; refine tlm ?_; refine tv (o_len Try.underlying22 rfl) ?_; refine tv (o_eqi rfl rfl) ?_; refine nq ?_; refine tc_cond rfl (fun h => ?_) (fun h => ?_)
    · have h3 : (outM id l).length = l.length := by rw [← hm15]; first | omega | (simp at h; omega)
      refine sr ?_; refine tla ?_; refine tla ?_; refine nq ?_; refine tc_ret ?_; refine q_then_r ?_
      have e0 : unsetS l id = ([], 190) := by unfold unsetS; rw [if_neg (by simpa using hne), if_pos h3]
      rw [e0]
      exact ⟨.tuple #[.slice none 0 0, .int .i64 (190)], A * Sl 3 (.slice none 0 0) 0 [], res2 rfl rfl rfl, fun _ _ h => sl_nil (Dr.sat (by repeat (first | with_reducible exact dr_refl | apply dr_keep | apply dr_drop)) _ _ h), none, 0, rfl, Nat.le_refl _, rfl⟩
    · have h3 : (outM id l).length ≠ l.length := by rw [← hm15]; first | omega | (simp at h; omega)
      have hol : (outM id l).length ≤ l.length := List.length_filter_le _ _
      refine tc_skip ?_; refine q_then_n ?_; refine sr ?_; refine tlm ?_; refine tl_c rfl (o_call bd33 rfl (ordered_c (l := outM id l) ordId cId_swo (hr := rs_sl) (hm := hm15.symm))) ?_; rintro _ _ ⟨a22, c22, rfl, hc22, rfl⟩; refine tla ?_; refine tla ?_; refine nq ?_; refine tc_ret ?_
      have e0 : unsetS l id = (srt (ltc cId) (outM id l), 0) := by unfold unsetS; rw [if_neg (by simpa using hne), if_neg h3]
      rw [e0]
      have el : (srt (ltc cId) (outM id l)).length = m15 := by rw [srt_length cId_swo, hm15]
      exact ⟨.tuple #[.slice a22 m15 c22, .int .i64 0], A * Sl 3 (.slice a22 m15 c22) m15 (mcs (srt (ltc cId) (outM id l))), res2 rfl rfl rfl, Dr.sat (by repeat (first | with_reducible exact dr_refl | apply dr_keep | apply dr_drop)), a22, c22, by rw [el], by rw [el]; exact hc22, by rw [el]⟩
theorem Order_c {A : SP} {a : Option Addr} {c n : Nat} {l : List Mk} (hr : Rs A a (mcs l) := by repeat (first | assumption | with_reducible exact rs_sl | with_reducible exact rs_pt0 | exact rs_none | apply Rs.left)) (hm : l.length = n := by first | assumption | rfl) (hs : n ≤ 5864062014800 := by omega) :
    Fn Try.prog 25 #[.slice a n c] (A) (fun r B => ∃ a2 c2, r = .slice a2 n c2 ∧ n ≤ c2 ∧ B = A * Sl 3 (.slice a2 n c2) n (mcs (srt (ltc cPl) l))) := by
  refine fn_enterW (args := [.slice a n c]) Try.func25 rfl Try.ntmps25 (by simp) ?_; refine sr ?_; refine tla ?_; refine nq ?_; refine sr ?_; refine tlm ?_; refine tl_c rfl (o_call bd33 rfl (ordered_c (l := l) ordPl cPl_swo)) ?_; rintro _ _ ⟨a4, c4, rfl, hc4, rfl⟩; refine tla ?_; refine nq ?_; refine tc_ret ?_; exact ⟨.slice a4 n c4, _, res1 rfl rfl, fun _ _ h => h, a4, c4, rfl, hc4, rfl⟩
end Go.Vl

set_option linter.unusedVariables false
set_option linter.unusedSimpArgs false
namespace Go.Vl
open Go Go.Proofs
/-! ### The sum's law -/
def crs (r : Nat) : Nat := (r / 2) ^^^ (2197175160 * (r % 2))
def crk : Nat → Nat → Nat
  | 0, r => r
  | k + 1, r => crs (crk k r)
def crL (r : Nat) : List Nat → Nat
  | [] => r
  | x :: xs => crL (crk 8 (r ^^^ x)) xs
def crc (s : Nat) (xs : List Nat) : Nat := crL (s ^^^ 4294967295) xs ^^^ 4294967295
/-- The document's register: the sum's, and what of the byte is not yet in it. -/
def rfk (k c x : Nat) : Nat := crk k c ^^^ x / 2 ^ k
section
variable {P : Program} {n : Nat} {ρ : Env} {A : SP} {dst : Option Tmp} {ty : TypeId} {pos : String} {after : Array Edge} {gd : Option (Nat × Bool)}
end
end Go.Vl

set_option linter.unusedVariables false
set_option linter.unusedSimpArgs false
namespace Go.Vl
open Go Go.Proofs
/-! ### Sums of parts -/
def crcs (ls : List (List Nat)) : Nat := ls.foldl crc 0
attribute [local irreducible] crk crL crc Sl pt ro
theorem Little_c {A : SP} {v n : Nat} (hn : n ≤ 8 := by decide) :
    Fn Try.prog 50 #[.int .u64 (v : Nat), .int .i64 (n : Nat)] (A) (fun r B => ∃ a c, r = .slice a n c ∧ n ≤ c ∧ B = A * Sl 1 (.slice a n c) n (bys (le n v))) := by
  refine fn_enterW (args := [.int .u64 (v : Nat), .int .i64 (n : Nat)]) Try.func50 rfl Try.ntmps50 (by simp) ?_; refine sr ?_; refine tla ?_; refine nq ?_; refine sr ?_; refine tla ?_; refine nq ?_; refine tc_seq ?_; refine sr ?_; refine tla ?_; refine nq ?_; refine tc_block ?_; refine tc_pre (fun _ _ h => sl_nil (k := 1) h) ?_; refine tc_loop (fun kk ρ BB => ∃ (i : Nat) (a5 : Option Addr) (c5 : Nat), (i ≤ n) ∧ kk = n - i ∧ ρ 5 = .slice a5 i c5 ∧ ρ 6 = .int .i64 (i : Nat) ∧ ρ 0 = .int .u64 (v : Nat) ∧ ρ 1 = .int .i64 (n : Nat) ∧ BB = A * Sl 1 (.slice a5 i c5) i (bys (le i v))) (m := n - (0)) ?_ ?_
  · exact ⟨0, none, 0, by omega, rfl, rfl, rfl, rfl, rfl, rfl⟩
  · intro k ρ B hI
    obtain ⟨i, a5, c5, hp0, hkk1, hE5, hE6, hE0, hE1, rfl⟩ := hI
    refine tc_env (d := 5) hE5 ?_; refine tc_env (d := 6) hE6 ?_; refine tc_env (d := 0) hE0 ?_; refine tc_env (d := 1) hE1 ?_
    clear hE5 hE6 hE0 hE1
    refine tc_seq ?_; refine sr ?_; refine tlm ?_; refine tlm ?_; refine tv (o_lss rfl rfl) ?_; refine nq ?_; refine tc_cond rfl (fun h => ?_) (fun h => ?_)
    · try simp only [lv1, lv2, lv3, lv4, lv5, lv6, Bool.not_true, Bool.not_false] at h
      refine tc_skip ?_; refine q_then_n ?_; refine tc_seq ?_; refine tc_block ?_; refine tc_reg ?_; refine tlm ?_; refine tlm ?_; refine tlm ?_; refine tv (by first | exact o_mulI rfl rfl (by omega) | exact o_mul rfl rfl) ?_; refine tl_env (d := 15) (v := .int .i64 ((8 * i : Nat) : Int)) (rfl) ?_; refine tv (o_shrN (b := 8 * i) rfl rfl rfl (by show 8 * i ≤ 64; omega)) ?_; refine tv (by first | exact o_conv8 Try.underlying66 Try.underlying5 rfl | exact o_conv Try.underlying66 Try.underlying5 rfl) ?_; refine tl_env (d := 17) (v := .int .u8 ((v / 256 ^ i % 256 : Nat) : Int)) (congrArg (fun z : Nat => Value.int .u8 ((v / z % 256 : Nat) : Int)) (Nat.pow_mul 2 8 i)) ?_; refine tl_x rfl (o_buildSlice1 Try.underlying62 sz5 z5 (by conv => lhs; whnf) rfl) ?_; rintro _ _ ⟨b18, rfl, rfl⟩; refine tl_x rfl (o_apB Try.underlying62 Try.underlying62 sz5 by5 z5 rfl (by decide) (by decide) rfl rfl rfl (by repeat (first | with_reducible exact ct_here | apply ct_left)) rfl (by first | exact bys_all _ | exact ints_all _ | exact wds_all _ | exact bos_all _ | rfl) (by first | omega | (simp only [bys_length, ints_length, wds_length, bos_length, List.length_append, List.length_take, List.length_drop, List.length_singleton]; omega)) (by first | exact bys_sn _ _ | exact ints_sn _ _ | exact wds_sn _ _ | exact bos_sn _ _ | exact (bys_append _ _).symm | rfl)) ?_; rintro _ _ ⟨a19, c19, rfl, hc19, rfl⟩; refine tla ?_; refine tl_nil ?_
      refine q_block_n (q_then_n ?_); refine tc_reg ?_; refine tlm ?_; refine tv (by first | exact o_addI rfl rfl (by omega) | exact o_add rfl rfl) ?_; refine tla ?_; refine nq ?_; exact ⟨_, by omega, i + 1, _, _, by omega, rfl, rfl, rfl, rfl, rfl, by rw [le_snoc]⟩
    · try simp only [lv1, lv2, lv3, lv4, lv5, lv6, Bool.not_true, Bool.not_false] at h
      refine tc_exit ?_; refine q_then_e (q_then_e (q_block_x (q_then_n ?_))); refine tc_seq ?_; refine tc_have (fun _ _ h => ct_cap (by repeat (first | with_reducible exact ct_here | apply ct_left)) h) fun hc5 => ?_; refine tc_reg ?_; refine tlm ?_; refine tla ?_; refine nq ?_; refine tc_ret ?_
      obtain rfl : i = n := by omega
      exact ⟨_, _, res1 rfl rfl, fun _ _ h => h, a5, c5, rfl, hc5, rfl⟩
end Go.Vl

set_option linter.unusedVariables false
set_option linter.unusedSimpArgs false
namespace Go.Vl
open Go Go.Proofs
def sbys (s : ByteArray) : List Nat := s.data.toList.map fun b => b.toNat
theorem sbys_len (s : ByteArray) : (sbys s).length = s.size := by unfold sbys; rw [List.length_map]; rfl
theorem sbys_at {s : ByteArray} {i : Nat} (h : i < s.size) : ∃ c : UInt8, s[i]? = some c ∧ (sbys s)[i]? = some c.toNat := by
  refine ⟨s[i], getElem?_pos s i h, ?_⟩
  unfold sbys
  rw [List.getElem?_map, List.getElem?_eq_getElem (by simpa using h)]
  simp; rfl
theorem Two_j {A : SP} {a1 a2 : Option Addr} {m1 m2 c1 c2 b : Nat} {xs ys : List Nat} {E : TypeId} (h1 : Rs A a1 (bys xs)) (h2 : Rs A a2 (bys ys)) (e1 : xs.length = m1) (e2 : ys.length = m2) (hl : m1 + m2 ≤ 17592186044416) :
    Fn Try.prog 67 #[.slice (some ⟨b, 0, none⟩) 2 2] (A * pt b (cl [.slice a1 m1 c1, .slice a2 m2 c2] E)) (fun r B => ∃ a c, r = .slice a (m1 + m2) c ∧ m1 + m2 ≤ c ∧ B = A * pt b (cl [.slice a1 m1 c1, .slice a2 m2 c2] E) * Sl 1 (.slice a (m1 + m2) c) (m1 + m2) (bys (xs ++ ys))) := by
  subst e1 e2
  refine fn_rs (xs := [.slice a1 xs.length c1, .slice a2 ys.length c2]) rs_pt0 fun hr => ?_; refine fn_rs h1.left fun h1 => fn_rs h2.left fun h2 => ?_
  have key := JoinN_f (A * pt b (cl [.slice a1 xs.length c1, .slice a2 ys.length c2] E)) (some ⟨b, 0, none⟩) 2 2 [xs, ys] ⟨_, rfl, hr, fun i hi => by
    match i, hi with
    | 0, _ => exact ⟨a1, c1, rfl, h1⟩
    | 1, _ => exact ⟨a2, c2, rfl, h2⟩⟩ (by simp; omega) (by simp) rfl
  have e : ([xs, ys] : List (List Nat)).flatten = xs ++ ys := by simp
  rw [e] at key
  have e3 : (xs ++ ys).length = xs.length + ys.length := by simp
  rw [e3] at key
  exact fn_sl key
attribute [local irreducible] crk crL crc Sl pt ro
theorem Two_c {A : SP} {a1 a2 : Option Addr} {m1 m2 c1 c2 : Nat} {xs ys : List Nat} (h1 : Rs A a1 (bys xs) := by repeat (first | assumption | with_reducible exact rs_sl | with_reducible exact rs_pt0 | exact rs_none | apply Rs.left)) (h2 : Rs A a2 (bys ys) := by repeat (first | assumption | with_reducible exact rs_sl | with_reducible exact rs_pt0 | exact rs_none | apply Rs.left)) (e1 : xs.length = m1 := by first | assumption | rfl) (e2 : ys.length = m2 := by first | assumption | rfl) (hl : m1 + m2 ≤ 17592186044416 := by omega) :
    Fn Try.prog 49 #[.slice a1 m1 c1, .slice a2 m2 c2] (A) (fun r B => ∃ a c, r = .slice a (m1 + m2) c ∧ m1 + m2 ≤ c ∧ B = A * Sl 1 (.slice a (m1 + m2) c) (m1 + m2) (bys (xs ++ ys))) := by
  refine fn_enterW (args := [.slice a1 m1 c1, .slice a2 m2 c2]) Try.func49 rfl Try.ntmps49 (by simp) ?_; refine sr ?_; refine tla ?_; refine nq ?_; refine sr ?_; refine tlm ?_; refine tlm ?_; refine tl_x rfl (o_buildSliceL (k := 1) (vs := [.slice a1 m1 c1, .slice a2 m2 c2]) (l := [.slice a1 m1 c1, .slice a2 m2 c2]) Try.underlying95 sz62 z62 rfl rfl (by decide) (by decide) (by intro v hv; simp at hv; rcases hv with rfl | rfl <;> rfl) rfl) ?_; rintro _ _ ⟨b7, rfl, rfl⟩; refine tl_c rfl (o_call bd67 rfl (Two_j h1 h2 e1 e2 hl)) ?_; rintro _ _ ⟨a8, c8, rfl, hc8, rfl⟩; refine tla ?_; refine nq ?_; refine tc_ret ?_; exact ⟨_, _, res1 rfl rfl, Dr.sat (by repeat (first | with_reducible exact dr_refl | apply dr_keep | apply dr_drop)), a8, c8, rfl, hc8, rfl⟩
end Go.Vl

set_option linter.unusedVariables false
set_option linter.unusedSimpArgs false
namespace Go.Vl
open Go Go.Proofs
def planL (n : Int) : List Int := [n, 128, 32768, 32896, (n - 32896) / 256]
def planT (n : Int) : List Int × Int := if 36992 ≤ n ∧ n ≤ 4194304 ∧ n % 64 = 0 then (planL n, 0) else ([0, 0, 0, 0, 0], 80)
end Go.Vl

set_option linter.unusedVariables false
set_option linter.unusedSimpArgs false
namespace Go.Vl
open Go Go.Proofs
def magicB : List Nat := [86, 69, 76, 76, 85, 77, 48, 49]
def mbs (ns : List Nat) : List Nat := magicB ++ ns.flatMap (le 8)
def sbB (ns : List Nat) : List Nat := mbs ns ++ le 8 (crc 0 (mbs ns))
end Go.Vl

set_option linter.unusedVariables false
set_option linter.unusedSimpArgs false
namespace Go.Vl
open Go Go.Proofs
def lineT (q0 q1 q2 q3 q4 : Int) : List Nat × Int := if planT q0 = ([q0, q1, q2, q3, q4], 0) then (sbB [q0.toNat, 128, 32768, 32896, (q0.toNat - 32896) / 256, 0], 0) else ([], 100)
end Go.Vl

set_option linter.unusedVariables false
set_option linter.unusedSimpArgs false
namespace Go.Vl
open Go Go.Proofs
def stE (s : DevS) : Int := if s.off = true then 5 else 0
end Go.Vl
