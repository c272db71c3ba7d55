/- What the row rests on, part 3: a calculus of assertions, walks of functions over it, and plain laws. Conditions: none. -/
import Derived.Deep.QuietTactic
import Derived.BigQuiet
import Derived.WalkKit
import Derived.Test.YtnkeepjpkdjcdaaProg
import Derived.OrdersHeld
import Derived.Laws.BytesArg
import Derived.Lib.Builder
import Derived.Lib.UnsafeStr
import Derived.RangeFuncRecord
import Derived.TacticsIn
import Derived.Deep.Slices
import Derived.OpenShut
import Derived.ChangeArms
import Derived.SizedLaws
import Derived.ChangeSame
import Derived.Test.YtnkeepjpkdjcdaaRows
import Derived.Test.YtnkeepjpkdjcdaaMg2
set_option linter.unusedVariables false
set_option linter.unusedSimpArgs false
namespace Go.Vl
open Go Go.Proofs
attribute [local irreducible] Sl pt ro SlB
set_option maxRecDepth 20000 in
set_option maxHeartbeats 2000000 in
theorem rMay_c {A : SP} {a : Option Addr} {c n : Nat} {l : List Mk} (hr : Rs A a (mcs l) := by repeat (first | assumption | with_reducible exact rs_sl | with_reducible exact rs_pt0 | exact rs_none | apply Rs.left)) (hm : l.length = n := by first | assumption | rfl) (hs : n ≤ 1125899906842624 := by omega) :
    Fn Try.prog 35 #[.slice a n c] (A) (fun r B => r = .int .i64 (mayS l) ∧ A = B) := by
  refine fn_enterW (args := [.slice a n c]) Try.func35 rfl Try.ntmps35 (by simp) ?_; refine sr ?_; refine tla ?_; refine nq ?_; refine tc_seq ?_; refine sr ?_; refine tlm ?_; refine tv (o_len Try.underlying22 rfl) ?_; refine tv (o_gtr rfl rfl) ?_; refine nq ?_; refine tc_cond rfl (fun h => ?_) (fun h => ?_)
  · try simp only [lv1, lv2, lv3, lv4, lv5, lv6, Bool.not_true, Bool.not_false] at h
    refine sr ?_; refine tla ?_; refine nq ?_; refine tc_ret ?_; refine q_then_r ?_; refine ⟨.int .i64 191, _, res1 rfl rfl, ?_, (by unfold mayS; rw [if_pos (by first | omega | (simp at h; omega))]), rfl⟩; exact Dr.sat (by repeat (first | with_reducible exact dr_refl | apply dr_keep | apply dr_drop))
  · have h32 : l.length ≤ 32 := by first | omega | (simp at h; omega)
    refine tc_skip ?_; refine q_then_n ?_; refine tc_seq ?_; refine sr ?_; refine tla ?_; refine nq ?_; refine tc_block ?_; refine tc_loop (fun kk ρ BB => ∃ (i : Nat), (i ≤ n) ∧ ((l.take i).all okM = true) ∧ (((l.take i).map Mk.id).Nodup) ∧ kk = n - i ∧ ρ 3 = .int .i64 (i : Nat) ∧ ρ 0 = .slice a n c ∧ BB = A) (m := n - (0)) ?_ ?_
    · exact ⟨0, by omega, rfl, by simp, rfl, rfl, rfl, rfl⟩
    · intro k ρ B hI
      obtain ⟨i, hp0, hp1, hp2, hkk1, hE3, hE0, hBA⟩ := hI
      obtain rfl := hBA.symm
      refine tc_env (d := 3) hE3 ?_; refine tc_env (d := 0) hE0 ?_
      clear hE3 hE0
      refine tc_seq ?_; refine sr ?_; refine tlm ?_; refine tlm ?_; refine tv (o_len Try.underlying22 rfl) ?_; refine tv (o_lss rfl rfl) ?_; refine nq ?_; refine tc_cond rfl (fun h => ?_) (fun h => ?_)
      · have hi : i < l.length := by first | omega | (simp at h; omega)
        obtain ⟨x, hx⟩ : ∃ x, l[i] = x := ⟨_, rfl⟩
        have htk : l.take (i + 1) = l.take i ++ [x] := by rw [List.take_succ_eq_append_getElem hi, hx]
        have htm : (l.take (i + 1)).map Mk.id = (l.take i).map Mk.id ++ [x.id] := by rw [htk, List.map_append]; rfl
        refine tc_skip ?_; refine q_then_n ?_; refine tc_seq ?_; refine tc_block ?_; refine tc_seq ?_; refine sr ?_; refine tlm ?_; refine tlm ?_; refine tv (o_ixP Try.underlying22 sz35 rfl rfl (by omega) (by repeat (first | exact nn_rs hr (fun _ => by rw [mcs_len]; omega) | apply Nn.left))) ?_; refine tv (o_faP (m := 0) (o := 1) Try.underlying35 rfl rfl sz3 rfl (nn_rs hr (fun _ => by rw [mcs_len]; omega))) ?_; refine tv (o_ldP p3 rfl (by repeat (first | exact hr | apply Rs.left)) (by rw [mcs_f1 hi])) ?_; refine tl_env (d := 18) (v := .int .i64 x.at_) (by rw [← hx]; rfl) ?_; refine tv (o_lss rfl rfl) ?_; refine tlm ?_; refine tl_bool (d := 20) rfl (fun h => ?_) (fun h => ?_)
        · have g1 : x.at_ < 0 := by first | exact of_decide_eq_true h | exact h | simpa using h
          have hok : okM x = false := by unfold okM; rw [decide_eq_false (show ¬ 0 ≤ x.at_ by omega), Bool.false_and]
          refine tk ?_; refine tk ?_; refine tk ?_; refine tk ?_; refine tk ?_; refine tk ?_; refine tv (o_pick_t rfl (by conv => lhs; whnf)) ?_; refine nq ?_; refine tc_cond_t rfl ?_; refine sr ?_; refine tla ?_; refine nq ?_; refine tc_ret ?_; refine q_then_r (q_block_r (q_then_r (q_then_r (q_block_r (q_then_r ?_))))); refine ⟨.int .i64 190, _, res1 rfl rfl, ?_, (by first | rw [may_bad h32 (hx ▸ List.getElem_mem hi) hok] | rw [may_dup h32 hi (by rw [hx, ← hki]; exact List.mem_map_of_mem (List.mem_take_iff_getElem.2 ⟨k, by omega, rfl⟩))]), rfl⟩; exact Dr.sat (by repeat (first | with_reducible exact dr_refl | apply dr_keep | apply dr_drop))
        · have g1 : ¬ x.at_ < 0 := by first | exact of_decide_eq_false h | exact h | simpa using h
          refine tlm ?_; refine tlm ?_; refine tv (o_ixP Try.underlying22 sz35 rfl rfl (by omega) (by repeat (first | exact nn_rs hr (fun _ => by rw [mcs_len]; omega) | apply Nn.left))) ?_; refine tv (o_faP (m := 0) (o := 2) Try.underlying35 rfl rfl sz5 rfl (nn_rs hr (fun _ => by rw [mcs_len]; omega))) ?_; refine tv (o_ldP p5 rfl (by repeat (first | exact hr | apply Rs.left)) (by rw [mcs_f2 hi])) ?_; refine tl_env (d := 25) (v := .int .u8 (x.gr : Nat)) (by rw [← hx]; rfl) ?_; refine tv (o_gtr rfl rfl) ?_; refine tv (o_pick_f rfl (by conv => lhs; whnf)) ?_; refine nq ?_; refine tc_cond rfl (fun h => ?_) (fun h => ?_)
          · have hok : okM x = false := by first | assumption | unfold okM; first | rw [decide_eq_false (show ¬ 0 ≤ x.at_ by omega), Bool.false_and] | rw [decide_eq_false (show ¬ x.gr ≤ 1 by first | omega | (simp at h; omega)), Bool.and_false]
            refine sr ?_; refine tla ?_; refine nq ?_; refine tc_ret ?_; refine q_then_r (q_block_r (q_then_r (q_then_r (q_block_r (q_then_r ?_))))); refine ⟨.int .i64 190, _, res1 rfl rfl, ?_, (by first | rw [may_bad h32 (hx ▸ List.getElem_mem hi) hok] | rw [may_dup h32 hi (by rw [hx, ← hki]; exact List.mem_map_of_mem (List.mem_take_iff_getElem.2 ⟨k, by omega, rfl⟩))]), rfl⟩; exact Dr.sat (by repeat (first | with_reducible exact dr_refl | apply dr_keep | apply dr_drop))
          · have hok : okM x = true := by unfold okM; rw [decide_eq_true (show 0 ≤ x.at_ by omega), decide_eq_true (show x.gr ≤ 1 by first | omega | (simp at h; omega))]; rfl
            refine tc_skip ?_; refine q_then_n ?_; refine sr ?_; refine tla ?_; refine nq ?_; refine tc_block ?_; refine tc_loop (fun kk ρ BB => ∃ (k : Nat), (k ≤ i) ∧ (∀ y ∈ l.take k, y.id ≠ x.id) ∧ kk = i - k ∧ ρ 4 = .int .i64 (k : Nat) ∧ ρ 0 = .slice a n c ∧ ρ 3 = .int .i64 (i : Nat) ∧ BB = A) (m := i - (0)) ?_ ?_
            · exact ⟨0, by omega, by simp, rfl, rfl, rfl, rfl, rfl⟩
            · intro k ρ B hI
              obtain ⟨k, hq0, hq1, hkk2, hE4, hE0, hE3, hBA⟩ := hI
              obtain rfl := hBA.symm
              refine tc_env (d := 4) hE4 ?_; refine tc_env (d := 0) hE0 ?_; refine tc_env (d := 3) hE3 ?_
              clear hE4 hE0 hE3
              refine tc_seq ?_; refine sr ?_; refine tlm ?_; refine tlm ?_; refine tv (o_lss rfl rfl) ?_; refine nq ?_; refine tc_cond rfl (fun h => ?_) (fun h => ?_)
              · have hki_ : k < i := by first | omega | (simp at h; omega)
                have hk : k < l.length := by omega
                refine tc_skip ?_; refine q_then_n ?_; refine tc_seq ?_; refine tc_block ?_; refine tc_seq ?_; refine tc_regq mo (by kernel_rfl) ?_; refine ql_v rfl (o_move (by conv => lhs; whnf)) ?_; refine ql_v rfl (o_move (by conv => lhs; whnf)) ?_; refine ql_v rfl (o_ixP Try.underlying22 sz35 rfl rfl (by omega) (by repeat (first | exact nn_rs hr (fun _ => by rw [mcs_len]; omega) | apply Nn.left))) ?_; refine ql_v rfl (o_faP (m := 0) (o := 0) Try.underlying35 rfl rfl sz33 rfl (nn_rs hr (fun _ => by rw [mcs_len]; omega))) ?_; refine ql_v rfl (o_ldP p33 rfl (by repeat (first | exact hr | apply Rs.left)) (by rw [mcs_f0 hk])) ?_; refine ql_v rfl (o_move (by conv => lhs; whnf)) ?_; refine ql_v rfl (o_move (by conv => lhs; whnf)) ?_; refine ql_v rfl (o_ixP Try.underlying22 sz35 rfl rfl (by omega) (by repeat (first | exact nn_rs hr (fun _ => by rw [mcs_len]; omega) | apply Nn.left))) ?_; refine ql_v rfl (o_faP (m := 0) (o := 0) Try.underlying35 rfl rfl sz33 rfl (nn_rs hr (fun _ => by rw [mcs_len]; omega))) ?_; refine ql_v rfl (o_ldP p33 rfl (by repeat (first | exact hr | apply Rs.left)) (by rw [mcs_f0 hi])) ?_; refine ql_env (d := 42) (v := .int .u32 (x.id : Nat)) (by rw [← hx]; rfl) ?_; refine ql_v rfl (o_eqi rfl rfl) ?_; refine ql_nil ?_
                refine q_then_n ?_; refine tc_cond rfl (fun h => ?_) (fun h => ?_)
                · have hki : l[k].id = x.id := by first | omega | (simp at h; omega)
                  refine sr ?_; refine tla ?_; refine nq ?_; refine tc_ret ?_; refine q_block_r (q_then_r (q_then_r (q_block_r (q_block_r (q_then_r (q_then_r (q_block_r (q_then_r ?_)))))))); refine ⟨.int .i64 190, _, res1 rfl rfl, ?_, (by first | rw [may_bad h32 (hx ▸ List.getElem_mem hi) hok] | rw [may_dup h32 hi (by rw [hx, ← hki]; exact List.mem_map_of_mem (List.mem_take_iff_getElem.2 ⟨k, by omega, rfl⟩))]), rfl⟩; exact Dr.sat (by repeat (first | with_reducible exact dr_refl | apply dr_keep | apply dr_drop))
                · have hki : l[k].id ≠ x.id := by first | omega | (simp at h; omega)
                  refine tc_skip ?_; refine q_block_n (q_then_n ?_); refine tc_reg ?_; refine tlm ?_; refine tv (by first | exact o_addI rfl rfl (by omega) | exact o_add rfl rfl) ?_; refine tla ?_; refine nq ?_; exact ⟨_, by omega, k + 1, by omega, by rw [List.take_succ_eq_append_getElem hk]; intro y hy; rcases List.mem_append.1 hy with h1 | h1; exact hq1 y h1; rw [List.mem_singleton.1 h1]; exact hki, rfl, rfl, rfl, rfl, rfl⟩
              · have hki : i = k := by first | omega | (simp at h; omega)
                have hnd : x.id ∉ (l.take i).map Mk.id := fun hc => by rw [hki] at hc; obtain ⟨y, hy, e⟩ := List.mem_map.1 hc; exact hq1 y hy e
                refine tc_exit ?_; refine q_then_e (q_then_e (q_block_x (q_block_n (q_then_n ?_)))); refine tc_reg ?_; refine tlm ?_; refine tv (by first | exact o_addI rfl rfl (by omega) | exact o_add rfl rfl) ?_; refine tla ?_; refine nq ?_; exact ⟨_, by omega, i + 1, by omega, by rw [htk, List.all_append, hp1]; simpa using hok, by rw [htm]; exact List.nodup_append.2 ⟨hp2, by simp, fun y hy z hz => by simp only [List.mem_singleton] at hz; subst hz; exact fun e => hnd (e ▸ hy)⟩, rfl, rfl, rfl, rfl⟩
      · try simp only [lv1, lv2, lv3, lv4, lv5, lv6, Bool.not_true, Bool.not_false] at h
        refine tc_exit ?_; refine q_then_e (q_then_e (q_block_x (q_then_n ?_))); refine sr ?_; refine tla ?_; refine nq ?_; refine tc_ret ?_
        have hi : n ≤ i := by first | omega | (simp at h; omega)
        rw [List.take_of_length_le (by omega)] at hp1 hp2
        exact ⟨.int .i64 0, A, res1 rfl rfl, Dr.sat (by repeat (first | with_reducible exact dr_refl | apply dr_keep | apply dr_drop)), by rw [may_ok h32 hp1 hp2], rfl⟩
set_option maxRecDepth 20000 in
set_option maxHeartbeats 2000000 in
theorem rCheck_c {A : SP} {a : Option Addr} {c n : Nat} {l : List Mk} {z : Int} (hr : Rs A a (mcs l) := by repeat (first | assumption | with_reducible exact rs_sl | with_reducible exact rs_pt0 | exact rs_none | apply Rs.left)) (hm : l.length = n := by first | assumption | rfl) (hs : n ≤ 1125899906842624 := by omega) :
    Fn Try.prog 20 #[.slice a n c, .int .i64 z] (A) (fun r B => r = .int .i64 (checkS l z) ∧ A = B) := by
  refine fn_enterW (args := [.slice a n c, .int .i64 z]) Try.func20 rfl Try.ntmps20 (by simp) ?_; refine sr ?_; refine tla ?_; refine nq ?_; refine sr ?_; refine tlm ?_; refine tl_c rfl (o_call bd35 rfl (rMay_c (l := l))) ?_; rintro _ _ ⟨rfl, rfl⟩; refine tla ?_; refine nq ?_; refine tc_seq ?_; refine sr ?_; refine tla ?_; refine nq ?_; refine tc_block ?_; refine tc_loop (fun kk ρ BB => ∃ (i : Nat), (i ≤ n) ∧ (∀ x ∈ l.take i, decide (z < x.at_) = false) ∧ kk = n - i ∧ ρ 6 = .int .i64 (i : Nat) ∧ ρ 0 = .slice a n c ∧ ρ 1 = .int .i64 z ∧ ρ 5 = .int .i64 (mayS l) ∧ BB = A) (m := n - (0)) ?_ ?_
  · exact ⟨0, by omega, by simp, rfl, rfl, rfl, rfl, rfl, rfl⟩
  · intro k ρ B hI
    obtain ⟨i, hp0, hp1, hkk1, hE6, hE0, hE1, hE5, hBA⟩ := hI
    obtain rfl := hBA.symm
    refine tc_env (d := 6) hE6 ?_; refine tc_env (d := 0) hE0 ?_; refine tc_env (d := 1) hE1 ?_; refine tc_env (d := 5) hE5 ?_
    clear hE6 hE0 hE1 hE5
    refine tc_seq ?_; refine sr ?_; refine tlm ?_; refine tlm ?_; refine tv (o_len Try.underlying22 rfl) ?_; refine tv (o_lss rfl rfl) ?_; refine tlm ?_; refine tl_bool (d := 13) rfl (fun h => ?_) (fun h => ?_)
    · have hi : i < l.length := by first | omega | (simp at h; omega)
      refine tlm ?_; refine tv (o_eqi rfl rfl) ?_; refine tv (o_pick_t rfl (by conv => lhs; whnf)) ?_; refine nq ?_; refine tc_cond rfl (fun h => ?_) (fun h => ?_)
      · have hne : mayS l = 0 := by first | omega | (simp at h; omega)
        refine tc_skip ?_; refine q_then_n ?_; refine tc_seq ?_; refine tc_block ?_; refine sr ?_; refine tlm ?_; refine tlm ?_; refine tv (o_ixP Try.underlying22 sz35 rfl rfl (by omega) (by repeat (first | exact nn_rs hr (fun _ => by rw [mcs_len]; omega) | apply Nn.left))) ?_; refine tv (o_faP (m := 0) (o := 1) Try.underlying35 rfl rfl sz3 rfl (nn_rs hr (fun _ => by rw [mcs_len]; omega))) ?_; refine tv (o_ldP p3 rfl (by repeat (first | exact hr | apply Rs.left)) (by rw [mcs_f1 hi])) ?_; refine tlm ?_; refine tv (o_gtr rfl rfl) ?_; refine nq ?_; refine tc_cond rfl (fun h => ?_) (fun h => ?_)
        · have hz : z < l[i].at_ := by first | exact of_decide_eq_true h | exact h | simpa using h
          refine sr ?_; refine tla ?_; refine nq ?_; refine tc_ret ?_; refine q_block_r (q_then_r (q_then_r (q_block_r (q_then_r ?_)))); refine ⟨.int .i64 190, _, res1 rfl rfl, ?_, (by unfold checkS; rw [if_neg (by simpa using hne), if_pos (List.any_eq_true.2 ⟨_, List.getElem_mem hi, decide_eq_true hz⟩)]), rfl⟩; exact Dr.sat (by repeat (first | with_reducible exact dr_refl | apply dr_keep | apply dr_drop))
        · have hz : ¬ z < l[i].at_ := by first | exact of_decide_eq_false h | exact h | simpa using h
          refine tc_skip ?_; refine q_block_n (q_then_n ?_); refine tc_reg ?_; refine tlm ?_; refine tv (by first | exact o_addI rfl rfl (by omega) | exact o_add rfl rfl) ?_; refine tla ?_; refine nq ?_; exact ⟨_, by omega, i + 1, by omega, by rw [List.take_succ_eq_append_getElem hi]; intro y hy; rcases List.mem_append.1 hy with h1 | h1; exact hp1 y h1; rw [List.mem_singleton.1 h1]; exact decide_eq_false hz, rfl, rfl, rfl, rfl, rfl, rfl⟩
      · have hne : mayS l ≠ 0 := by first | omega | (simp at h; omega)
        refine tc_exit ?_; refine q_then_e (q_then_e (q_block_x (q_then_n ?_))); refine sr ?_; refine tlm ?_; refine tla ?_; refine nq ?_; refine tc_ret ?_
        have e0 : checkS l z = mayS l := by
          unfold checkS
          by_cases hc : mayS l ≠ 0
          · rw [if_pos hc]
          · rw [if_neg hc, if_neg]
            · exact (Classical.not_not.1 hc).symm
            · rw [List.any_eq_true]
              rintro ⟨x, hx, hb⟩
              first
              | exact absurd (Classical.not_not.1 hc) hne
              | (rw [List.take_of_length_le (by omega)] at hp1; rw [hp1 x hx] at hb; cases hb)
        exact ⟨.int .i64 (mayS l), A, res1 rfl rfl, Dr.sat (by repeat (first | with_reducible exact dr_refl | apply dr_keep | apply dr_drop)), by rw [e0], rfl⟩
    · have hi : l.length ≤ i := by first | omega | (simp at h; omega)
      refine tk ?_; refine tk ?_; refine tv (o_pick_f rfl (by conv => lhs; whnf)) ?_; refine nq ?_; refine tc_cond_f rfl ?_; refine tc_exit ?_; refine q_then_e (q_then_e (q_block_x (q_then_n ?_))); refine sr ?_; refine tlm ?_; refine tla ?_; refine nq ?_; refine tc_ret ?_
      have e0 : checkS l z = mayS l := by
        unfold checkS
        by_cases hc : mayS l ≠ 0
        · rw [if_pos hc]
        · rw [if_neg hc, if_neg]
          · exact (Classical.not_not.1 hc).symm
          · rw [List.any_eq_true]
            rintro ⟨x, hx, hb⟩
            first
            | exact absurd (Classical.not_not.1 hc) hne
            | (rw [List.take_of_length_le (by omega)] at hp1; rw [hp1 x hx] at hb; cases hb)
      exact ⟨.int .i64 (mayS l), A, res1 rfl rfl, Dr.sat (by repeat (first | with_reducible exact dr_refl | apply dr_keep | apply dr_drop)), by rw [e0], rfl⟩
def cmpB (pl : Bool) : Mk → Mk → Int := if pl then cPl else cId
theorem ntl {α : Type} {lt : α → α → Bool} (hw : SWO lt) {S : List α} {x : α} {w : Nat} (hSd : Sd lt S) (hi : w < S.length) (h : lt x S[w] = false) : ∀ y ∈ S.take (w + 1), lt x y = false := fun y hy => by
  obtain ⟨j, hj, rfl⟩ := List.mem_iff_getElem.1 hy
  rw [List.length_take] at hj
  rw [List.getElem_take]
  exact hw.ntrans _ _ _ (sd_le hw hSd (i := j) (j := w) (by omega) (by omega)) h
theorem mcs_one (l : List Mk) : (mcs l).all oneC = true := by
  rw [List.all_eq_true]
  intro v hv
  obtain ⟨m, _, h2⟩ := List.mem_flatMap.1 hv
  simp only [Mk.cells, List.mem_cons, List.not_mem_nil, or_false] at h2
  rcases h2 with rfl | rfl | rfl <;> rfl
theorem cmpB_swo (pl : Bool) : SWO (ltc (cmpB pl)) := by cases pl; exact cId_swo; exact cPl_swo
theorem ahead_c {A : SP} {x y : Mk} {pl : Bool} :
    Fn Try.prog 58 #[.agg x.cells.toArray, .agg y.cells.toArray, .bool pl] (A) (fun r B => r = .bool (ltc (cmpB pl) x y) ∧ A = B) := by
  refine fn_enterW (args := [.agg x.cells.toArray, .agg y.cells.toArray, .bool pl]) Try.func58 rfl Try.ntmps58 (by simp) ?_; refine sr ?_; refine tl_x rfl (o_box rfl rfl) ?_; rintro _ _ ⟨b3, rfl, rfl⟩; refine tl_x rfl (o_box rfl rfl) ?_; rintro _ _ ⟨b4, rfl, rfl⟩; refine tla ?_; refine nq ?_; refine tc_seq ?_; refine sr ?_; refine tlm ?_; refine tlm ?_; refine tl_bool (d := 8) rfl (fun h => ?_) (fun h => ?_)
  · have hpl : pl = true := by first | exact h | simpa using h
    refine tv (o_fieldAddr (o := 1) Try.underlying35 rfl rfl sz3 rfl) ?_; refine tv (by first | exact o_load p3 rfl (by repeat (first | with_reducible exact has_here | with_reducible exact has_pt | apply has_left)) rfl | exact o_loadC p3 rfl (by assumption)) ?_; refine tv (o_fieldAddr (o := 1) Try.underlying35 rfl rfl sz3 rfl) ?_; refine tv (by first | exact o_load p3 rfl (by repeat (first | with_reducible exact has_here | with_reducible exact has_pt | apply has_left)) rfl | exact o_loadC p3 rfl (by assumption)) ?_; refine tv (o_nei rfl rfl) ?_; refine tv (o_pick_t rfl (by conv => lhs; whnf)) ?_; refine nq ?_; refine tc_cond rfl (fun h => ?_) (fun h => ?_)
    · have hat : x.at_ ≠ y.at_ := by first | exact of_decide_eq_true h | exact h | simpa using h
      refine sr ?_; refine tv (o_fieldAddr (o := 1) Try.underlying35 rfl rfl sz3 rfl) ?_; refine tv (by first | exact o_load p3 rfl (by repeat (first | with_reducible exact has_here | with_reducible exact has_pt | apply has_left)) rfl | exact o_loadC p3 rfl (by assumption)) ?_; refine tv (o_fieldAddr (o := 1) Try.underlying35 rfl rfl sz3 rfl) ?_; refine tv (by first | exact o_load p3 rfl (by repeat (first | with_reducible exact has_here | with_reducible exact has_pt | apply has_left)) rfl | exact o_loadC p3 rfl (by assumption)) ?_; refine tv (o_lss rfl rfl) ?_; refine tla ?_; refine nq ?_; refine tc_ret ?_; refine q_then_r ?_; exact ⟨.bool (decide (x.at_ < y.at_)), A, res1 rfl rfl, Dr.sat (by repeat (first | with_reducible exact dr_refl | apply dr_keep | apply dr_drop)), by subst hpl; show _ = Value.bool (ltc cPl x y); rw [cPl_neg]; congr 1; rw [decide_eq_decide]; omega, rfl⟩
    · try have hat : x.at_ = y.at_ := by first | exact h | (have := of_decide_eq_false h; omega) | simpa using h
      refine tc_skip ?_; refine q_then_n ?_; refine sr ?_; refine tv (o_fieldAddr (o := 0) Try.underlying35 rfl rfl sz33 rfl) ?_; refine tv (by first | exact o_load p33 rfl (by repeat (first | with_reducible exact has_here | with_reducible exact has_pt | apply has_left)) rfl | exact o_loadC p33 rfl (by assumption)) ?_; refine tv (o_fieldAddr (o := 0) Try.underlying35 rfl rfl sz33 rfl) ?_; refine tv (by first | exact o_load p33 rfl (by repeat (first | with_reducible exact has_here | with_reducible exact has_pt | apply has_left)) rfl | exact o_loadC p33 rfl (by assumption)) ?_; refine tv (o_lss rfl rfl) ?_; refine tla ?_; refine nq ?_; refine tc_ret ?_; exact ⟨.bool (decide ((x.id : Int) < (y.id : Int))), A, res1 rfl rfl, Dr.sat (by repeat (first | with_reducible exact dr_refl | apply dr_keep | apply dr_drop)), by subst hpl; first | (show _ = Value.bool (ltc cPl x y); rw [cPl_neg]; congr 1; rw [decide_eq_decide]; omega) | (show _ = Value.bool (ltc cId x y); rw [cId_neg]; congr 1; rw [decide_eq_decide]; omega), rfl⟩
  · have hpl : pl = false := by first | exact h | simpa using h
    refine tk ?_; refine tk ?_; refine tk ?_; refine tk ?_; refine tk ?_; refine tv (o_pick_f rfl (by conv => lhs; whnf)) ?_; refine nq ?_; refine tc_cond_f rfl ?_; refine tc_skip ?_; refine q_then_n ?_; refine sr ?_; refine tv (o_fieldAddr (o := 0) Try.underlying35 rfl rfl sz33 rfl) ?_; refine tv (by first | exact o_load p33 rfl (by repeat (first | with_reducible exact has_here | with_reducible exact has_pt | apply has_left)) rfl | exact o_loadC p33 rfl (by assumption)) ?_; refine tv (o_fieldAddr (o := 0) Try.underlying35 rfl rfl sz33 rfl) ?_; refine tv (by first | exact o_load p33 rfl (by repeat (first | with_reducible exact has_here | with_reducible exact has_pt | apply has_left)) rfl | exact o_loadC p33 rfl (by assumption)) ?_; refine tv (o_lss rfl rfl) ?_; refine tla ?_; refine nq ?_; refine tc_ret ?_; exact ⟨.bool (decide ((x.id : Int) < (y.id : Int))), A, res1 rfl rfl, Dr.sat (by repeat (first | with_reducible exact dr_refl | apply dr_keep | apply dr_drop)), by subst hpl; first | (show _ = Value.bool (ltc cPl x y); rw [cPl_neg]; congr 1; rw [decide_eq_decide]; omega) | (show _ = Value.bool (ltc cId x y); rw [cId_neg]; congr 1; rw [decide_eq_decide]; omega), rfl⟩
set_option maxRecDepth 20000 in
set_option maxHeartbeats 2000000 in
theorem sorted_c {A : SP} {a : Option Addr} {c n : Nat} {l : List Mk} {pl : Bool} (hr : Rs A a (mcs l) := by repeat (first | assumption | with_reducible exact rs_sl | with_reducible exact rs_pt0 | exact rs_none | apply Rs.left)) (hm : l.length = n := by first | assumption | rfl) (hs : n ≤ 5864062014800 := by omega) :
    Fn Try.prog 38 #[.slice a n c, .bool pl] (A) (fun r B => ∃ a2 c2, r = .slice a2 n c2 ∧ n ≤ c2 ∧ B = A * Sl 3 (.slice a2 n c2) n (mcs (srt (ltc (cmpB pl)) l))) := by
  refine fn_enterW (args := [.slice a n c, .bool pl]) Try.func38 rfl Try.ntmps38 (by simp) ?_
  have hw := cmpB_swo pl
  refine sr ?_; refine tla ?_; refine nq ?_; refine sr ?_; refine tla ?_; refine nq ?_; refine tc_seq ?_; refine tc_seq ?_; refine tc_pre (A' := A * Sl 3 (.slice none 0 0) 0 (mcs (srt (ltc (cmpB pl)) (l.take 0)))) (fun _ _ h => sl_nil h) ?_; refine tc_reg ?_; refine tla ?_; refine nq ?_; refine tc_block ?_; refine tc_loop (fun kk ρ BB => ∃ (i : Nat) (a5 : Option Addr) (c5 : Nat), (i ≤ n) ∧ (i ≤ c5) ∧ kk = n - i ∧ ρ 5 = .slice a5 i c5 ∧ ρ 6 = .int .i64 (i : Nat) ∧ ρ 0 = .slice a n c ∧ ρ 1 = .bool pl ∧ Dr BB (A * Sl 3 (.slice a5 i c5) i (mcs (srt (ltc (cmpB pl)) (l.take i))))) (m := n - (0)) ?_ ?_
  · exact ⟨0, none, 0, by omega, by omega, rfl, rfl, rfl, rfl, rfl, (by repeat (first | with_reducible exact dr_refl | apply dr_keep | apply dr_drop))⟩
  · intro k ρ B hI
    obtain ⟨i, a5, c5, hp0, hp1, hkk1, hE5, hE6, hE0, hE1, hBA⟩ := hI
    refine tc_pre hBA.sat ?_
    clear hBA
    refine tc_env (d := 5) hE5 ?_; refine tc_env (d := 6) hE6 ?_; refine tc_env (d := 0) hE0 ?_; refine tc_env (d := 1) hE1 ?_
    clear hE5 hE6 hE0 hE1
    refine tc_seq ?_; refine sr ?_; refine tlm ?_; refine tlm ?_; refine tv (o_len Try.underlying22 rfl) ?_; refine tv (o_lss rfl rfl) ?_; refine nq ?_; refine tc_cond rfl (fun h => ?_) (fun h => ?_)
    · have hi : i < l.length := by first | omega | (simp at h; omega)
      obtain ⟨x, hx⟩ : ∃ x, l[i] = x := ⟨_, rfl⟩
      have htk : l.take (i + 1) = l.take i ++ [x] := by rw [List.take_succ_eq_append_getElem hi, hx]
      have hSl : (srt (ltc (cmpB pl)) (l.take i)).length = i := by rw [srt_length hw, List.length_take]; omega
      obtain ⟨S, hS⟩ : ∃ S, srt (ltc (cmpB pl)) (l.take i) = S := ⟨_, rfl⟩
      rw [hS] at hSl
      refine tc_eq (show _ = A * Sl 3 (.slice a5 i c5) i (mcs S) by rw [hS]) ?_
      have hSd : Sd (ltc (cmpB pl)) S := hS ▸ (srt_ss hw _).sd
      refine tc_skip ?_; refine q_then_n ?_; refine tc_seq ?_; refine tc_block ?_; refine sr ?_; refine tlm ?_; refine tv (o_len Try.underlying22 rfl) ?_; refine tla ?_; refine nq ?_; refine tc_seq ?_; refine tc_block ?_; refine tc_loop (fun kk ρ BB => ∃ (k : Nat), (k ≤ i) ∧ (∀ y ∈ S.drop k, ltc (cmpB pl) x y = true) ∧ kk = k ∧ ρ 7 = .int .i64 (k : Nat) ∧ ρ 0 = .slice a n c ∧ ρ 1 = .bool pl ∧ ρ 5 = .slice a5 i c5 ∧ ρ 6 = .int .i64 (i : Nat) ∧ BB = A * Sl 3 (.slice a5 i c5) i (mcs S)) (m := (i)) ?_ ?_
      · exact ⟨i, by omega, by rw [List.drop_of_length_le (by omega)]; simp, rfl, rfl, rfl, rfl, rfl, rfl, rfl⟩
      · intro k ρ B hI
        obtain ⟨k, hq0, hq1, hkk2, hE7, hE0, hE1, hE5, hE6, rfl⟩ := hI
        refine tc_env (d := 7) hE7 ?_; refine tc_env (d := 0) hE0 ?_; refine tc_env (d := 1) hE1 ?_; refine tc_env (d := 5) hE5 ?_; refine tc_env (d := 6) hE6 ?_
        clear hE7 hE0 hE1 hE5 hE6
        refine tc_seq ?_; refine tc_seq ?_; refine tc_regq mo (by kernel_rfl) ?_; refine ql_v rfl (o_move (by conv => lhs; whnf)) ?_; refine ql_v rfl (o_gtr rfl rfl) ?_; refine ql_v rfl (o_move (by conv => lhs; whnf)) ?_; refine ql_bool (d := 19) rfl (fun h => ?_) (fun h => ?_)
        · obtain ⟨w_, rfl⟩ : ∃ w, k = w + 1 := ⟨k - 1, by first | omega | (simp at h; omega)⟩
          refine ql_v rfl (o_move (by conv => lhs; whnf)) ?_; refine ql_v rfl (o_move (by conv => lhs; whnf)) ?_; refine ql_v rfl (o_ixP Try.underlying22 sz35 rfl rfl (by omega) (by repeat (first | exact nn_rs hr (fun _ => by rw [mcs_len]; omega) | apply Nn.left))) ?_; refine ql_v rfl (o_ldPN (vs := (x).cells) a35 sz35 rfl (by repeat (first | exact hr | apply Rs.left)) (by rw [mcs_at (by omega), hx]) rfl (by decide)) ?_; refine ql_v rfl (o_move (by conv => lhs; whnf)) ?_; refine ql_v rfl (o_move (by conv => lhs; whnf)) ?_; refine ql_v rfl (by first | exact o_subI rfl rfl (by omega) | exact o_sub rfl rfl) ?_; refine ql_env (d := 26) (v := .int .i64 (w_ : Nat)) (by show Value.int .i64 _ = _; congr 1; omega) ?_; refine ql_v rfl (o_ixP Try.underlying22 sz35 rfl rfl (by omega) (by repeat (first | exact nn_sl (by decide) | apply Nn.left))) ?_; refine ql_v rfl (o_ldPN (vs := (S[w_]'(by omega)).cells) a35 sz35 rfl (by repeat (first | with_reducible exact rs_sl | apply Rs.left)) (mcs_at (by omega)) rfl (by decide)) ?_; refine ql_v rfl (o_move (by conv => lhs; whnf)) ?_; refine ql_c rfl (fun w => exec_call bd58 rfl) (ahead_c (x := x) (y := S[w_]'(by omega)) (pl := pl)) ?_; refine ql_v rfl (o_pick_t rfl (by conv => lhs; whnf)) ?_; refine ql_nil ?_; refine q_then_n ?_; refine tc_cond rfl (fun h => ?_) (fun h => ?_)
          · have hgt : ∀ y ∈ S.drop w_, ltc (cmpB pl) x y = true := by rw [List.drop_eq_getElem_cons (by omega)]; intro y hy; rcases List.mem_cons.1 hy with h1 | h1; all_goals first | exact hq1 y h1 | (rw [h1]; first | exact h | simpa using h)
            refine tc_skip ?_; refine q_then_n ?_; refine tc_block ?_; refine tc_reg ?_; refine tlm ?_; refine tv (by first | exact o_subI rfl rfl (by omega) | exact o_sub rfl rfl) ?_; refine tl_env (d := 33) (v := .int .i64 (w_ : Nat)) (by show Value.int .i64 _ = _; congr 1; omega) ?_; refine tla ?_; refine tl_nil ?_; refine q_block_n (q_then_n ?_); exact ⟨_, by omega, w_, by omega, hgt, rfl, rfl, rfl, rfl, rfl, rfl, rfl⟩
          · have hle : ∀ y ∈ S.take (w_ + 1), ltc (cmpB pl) x y = false := fun y hy => ntl hw hSd (by omega) (by first | exact h | simpa using h) y hy
            have hex : ∃ k0 : Nat, w_ + 1 = k0 ∧ k0 ≤ i ∧ (∀ y ∈ S.drop k0, ltc (cmpB pl) x y = true) ∧ (∀ y ∈ S.take k0, ltc (cmpB pl) x y = false) := ⟨_, rfl, hq0, hq1, hle⟩
            refine tc_exit ?_; refine q_then_e (q_then_e (q_block_x (q_then_n ?_))); refine tc_seq ?_
            obtain ⟨kk, hke, hk, hgt, hle⟩ := hex
            refine tc_env (d := 7) (v := .int .i64 (kk : Nat)) (congrArg (fun z : Nat => Value.int .i64 (z : Int)) hke) ?_
            have hnx : srt (ltc (cmpB pl)) (l.take (i + 1)) = S.take kk ++ [x] ++ S.drop kk := by rw [htk, srt_snoc, hS, mg_one_r hle hgt]
            refine tc_reg ?_; refine tla ?_; refine nq ?_; refine sr ?_; refine tlm ?_; refine tlm ?_; refine tlm ?_; refine tv (o_slice (l := 0) (h := kk) Try.underlying22 sz35 rfl bnd_none (bnd_nat rfl) (by omega) (by omega)) ?_; refine tl_env (d := 37) (v := .slice a5 kk c5) (by show Value.slice (cutAddr _ _ 0 3) (kk - 0) (c5 - 0) = _; rw [show cutAddr a5 c5 0 3 = a5 by unfold cutAddr; cases a5 <;> simp [Addr.add]]; rfl) ?_; refine tl_x rfl (o_apN Try.underlying22 Try.underlying22 sz35 by35 z35 rfl (by decide) (by decide) rfl rfl (ys := mcs (S.take kk)) (by rw [← mcs_take]; exact rs_sl.sub (kk * 3)) (by rw [mcs_len, List.length_take]; omega) (mcs_one _) (by omega)) ?_; rintro _ _ ⟨a38, c38, rfl, hc38, rfl⟩; refine tla ?_; refine nq ?_; refine sr ?_; refine tlm ?_; refine tlm ?_; refine tlm ?_; refine tv (o_ixP Try.underlying22 sz35 rfl rfl (by omega) (by repeat (first | exact nn_rs hr (fun _ => by rw [mcs_len]; omega) | apply Nn.left))) ?_; refine tv (o_ldPN (vs := (x).cells) a35 sz35 rfl (by repeat (first | exact hr | apply Rs.left)) (by rw [mcs_at (by omega), hx]) rfl (by decide)) ?_; refine tl_x rfl (o_buildSliceK (k := 3) (l := x.cells) Try.underlying22 sz35 z35 rfl rfl (by decide)) ?_
            rintro _ _ ⟨b44, rfl, rfl⟩; refine tl_x rfl (o_apB Try.underlying22 Try.underlying22 sz35 by35 z35 rfl (by decide) (by decide) rfl rfl rfl (by repeat (first | with_reducible exact ct_here | apply ct_left)) rfl rfl (by omega) (show _ = mcs (S.take kk ++ [x]) by rw [mcs_append]; rfl)) ?_; rintro _ _ ⟨a45, c45, rfl, hc45, rfl⟩; refine tla ?_; refine nq ?_; refine tc_reg ?_; refine tlm ?_; refine tlm ?_; refine tlm ?_; refine tv (o_slice (l := kk) (h := i) Try.underlying22 sz35 rfl (bnd_nat rfl) bnd_none (by omega) (by omega)) ?_; refine tl_env (d := 49) (v := .slice (cutAddr a5 c5 kk 3) (i - kk) (c5 - kk)) (rfl) ?_; refine tl_x rfl (o_apR Try.underlying22 Try.underlying22 sz35 by35 z35 rfl (by decide) (by decide) rfl rfl (by repeat (first | with_reducible exact ct_here | apply ct_left)) (ys := mcs (S.drop kk)) (zs := mcs (S.take kk ++ [x] ++ S.drop kk)) (by rw [← mcs_drop]; exact rs_cut (by repeat (first | with_reducible exact rs_sl | apply Rs.left)) (by rw [mcs_len]; omega)) (by rw [mcs_len, List.length_drop]; omega) (mcs_one _) (by omega) (by rw [← mcs_append])) ?_; rintro _ _ ⟨a50, c50, rfl, hc50, rfl⟩
            rw [show kk + 1 + (i - kk) = i + 1 by omega] at hc50 ⊢
            rw [← hnx]
            refine tla ?_; refine tl_nil ?_; refine q_block_n (q_then_n ?_); refine tc_reg ?_; refine tlm ?_; refine tv (by first | exact o_addI rfl rfl (by omega) | exact o_add rfl rfl) ?_; refine tla ?_; refine nq ?_; exact ⟨_, by omega, i + 1, a50, c50, by omega, hc50, rfl, rfl, rfl, rfl, rfl, (by repeat (first | with_reducible exact dr_refl | apply dr_keep | apply dr_drop))⟩
        · have hle : ∀ y ∈ S.take k, ltc (cmpB pl) x y = false := by rw [show k = 0 by first | omega | (simp at h; omega)]; simp
          have hex : ∃ k0 : Nat, k = k0 ∧ k0 ≤ i ∧ (∀ y ∈ S.drop k0, ltc (cmpB pl) x y = true) ∧ (∀ y ∈ S.take k0, ltc (cmpB pl) x y = false) := ⟨_, rfl, hq0, hq1, hle⟩
          refine ql_skip rfl ?_; refine ql_skip rfl ?_; refine ql_skip rfl ?_; refine ql_skip rfl ?_; refine ql_skip rfl ?_; refine ql_skip rfl ?_; refine ql_skip rfl ?_; refine ql_skip rfl ?_; refine ql_skip rfl ?_; refine ql_skip rfl ?_; refine ql_skip rfl ?_; refine ql_v rfl (o_pick_f rfl (by conv => lhs; whnf)) ?_; refine ql_nil ?_; refine q_then_n ?_; refine tc_cond_f rfl ?_; refine tc_exit ?_; refine q_then_e (q_then_e (q_block_x (q_then_n ?_))); refine tc_seq ?_
          obtain ⟨kk, hke, hk, hgt, hle⟩ := hex
          refine tc_env (d := 7) (v := .int .i64 (kk : Nat)) (congrArg (fun z : Nat => Value.int .i64 (z : Int)) hke) ?_
          have hnx : srt (ltc (cmpB pl)) (l.take (i + 1)) = S.take kk ++ [x] ++ S.drop kk := by rw [htk, srt_snoc, hS, mg_one_r hle hgt]
          refine tc_reg ?_; refine tla ?_; refine nq ?_; refine sr ?_; refine tlm ?_; refine tlm ?_; refine tlm ?_; refine tv (o_slice (l := 0) (h := kk) Try.underlying22 sz35 rfl bnd_none (bnd_nat rfl) (by omega) (by omega)) ?_; refine tl_env (d := 37) (v := .slice a5 kk c5) (by show Value.slice (cutAddr _ _ 0 3) (kk - 0) (c5 - 0) = _; rw [show cutAddr a5 c5 0 3 = a5 by unfold cutAddr; cases a5 <;> simp [Addr.add]]; rfl) ?_; refine tl_x rfl (o_apN Try.underlying22 Try.underlying22 sz35 by35 z35 rfl (by decide) (by decide) rfl rfl (ys := mcs (S.take kk)) (by rw [← mcs_take]; exact rs_sl.sub (kk * 3)) (by rw [mcs_len, List.length_take]; omega) (mcs_one _) (by omega)) ?_; rintro _ _ ⟨a38, c38, rfl, hc38, rfl⟩; refine tla ?_; refine nq ?_; refine sr ?_; refine tlm ?_; refine tlm ?_; refine tlm ?_; refine tv (o_ixP Try.underlying22 sz35 rfl rfl (by omega) (by repeat (first | exact nn_rs hr (fun _ => by rw [mcs_len]; omega) | apply Nn.left))) ?_; refine tv (o_ldPN (vs := (x).cells) a35 sz35 rfl (by repeat (first | exact hr | apply Rs.left)) (by rw [mcs_at (by omega), hx]) rfl (by decide)) ?_; refine tl_x rfl (o_buildSliceK (k := 3) (l := x.cells) Try.underlying22 sz35 z35 rfl rfl (by decide)) ?_
          rintro _ _ ⟨b44, rfl, rfl⟩; refine tl_x rfl (o_apB Try.underlying22 Try.underlying22 sz35 by35 z35 rfl (by decide) (by decide) rfl rfl rfl (by repeat (first | with_reducible exact ct_here | apply ct_left)) rfl rfl (by omega) (show _ = mcs (S.take kk ++ [x]) by rw [mcs_append]; rfl)) ?_; rintro _ _ ⟨a45, c45, rfl, hc45, rfl⟩; refine tla ?_; refine nq ?_; refine tc_reg ?_; refine tlm ?_; refine tlm ?_; refine tlm ?_; refine tv (o_slice (l := kk) (h := i) Try.underlying22 sz35 rfl (bnd_nat rfl) bnd_none (by omega) (by omega)) ?_; refine tl_env (d := 49) (v := .slice (cutAddr a5 c5 kk 3) (i - kk) (c5 - kk)) (rfl) ?_; refine tl_x rfl (o_apR Try.underlying22 Try.underlying22 sz35 by35 z35 rfl (by decide) (by decide) rfl rfl (by repeat (first | with_reducible exact ct_here | apply ct_left)) (ys := mcs (S.drop kk)) (zs := mcs (S.take kk ++ [x] ++ S.drop kk)) (by rw [← mcs_drop]; exact rs_cut (by repeat (first | with_reducible exact rs_sl | apply Rs.left)) (by rw [mcs_len]; omega)) (by rw [mcs_len, List.length_drop]; omega) (mcs_one _) (by omega) (by rw [← mcs_append])) ?_; rintro _ _ ⟨a50, c50, rfl, hc50, rfl⟩
          rw [show kk + 1 + (i - kk) = i + 1 by omega] at hc50 ⊢
          rw [← hnx]
          refine tla ?_; refine tl_nil ?_; refine q_block_n (q_then_n ?_); refine tc_reg ?_; refine tlm ?_; refine tv (by first | exact o_addI rfl rfl (by omega) | exact o_add rfl rfl) ?_; refine tla ?_; refine nq ?_; exact ⟨_, by omega, i + 1, a50, c50, by omega, hc50, rfl, rfl, rfl, rfl, rfl, (by repeat (first | with_reducible exact dr_refl | apply dr_keep | apply dr_drop))⟩
    · try simp only [lv1, lv2, lv3, lv4, lv5, lv6, Bool.not_true, Bool.not_false] at h
      refine tc_exit ?_; refine q_then_e (q_then_e (q_block_x (q_then_n ?_))); refine sr ?_; refine tlm ?_; refine tla ?_; refine nq ?_; refine tc_ret ?_
      have hi : i = n := by first | omega | (simp at h; omega)
      subst hi
      exact ⟨.slice a5 i c5, A * Sl 3 (.slice a5 i c5) i (mcs (srt (ltc (cmpB pl)) l)), res1 rfl rfl, fun _ _ h => by have h2 := Dr.sat (A' := A * Sl 3 (.slice a5 i c5) i (mcs (srt (ltc (cmpB pl)) (l.take i)))) (by repeat (first | with_reducible exact dr_refl | apply dr_keep | apply dr_drop)) _ _ h; rwa [List.take_of_length_le (by omega)] at h2, a5, c5, rfl, hp1, rfl⟩
end Go.Vl

set_option linter.unusedVariables false
set_option linter.unusedSimpArgs false
namespace Go.Vl
open Go Go.Proofs
attribute [local irreducible] Sl pt ro SlB
set_option maxRecDepth 20000 in
set_option maxHeartbeats 2000000 in
theorem rSet_c {A : SP} {a : Option Addr} {c n : Nat} {l : List Mk} {m : Mk} (hr : Rs A a (mcs l) := by repeat (first | assumption | with_reducible exact rs_sl | with_reducible exact rs_pt0 | exact rs_none | apply Rs.left)) (hm : l.length = n := by first | assumption | rfl) (hs : n ≤ 5864062014800 := by omega) :
    Fn Try.prog 22 #[.slice a n c, .agg m.cells.toArray] (A) (fun r B => ∃ a2 c2, r = .tuple #[.slice a2 (setS l m).1.length c2, .int .i64 (setS l m).2] ∧ (setS l m).1.length ≤ c2 ∧ B = A * Sl 3 (.slice a2 (setS l m).1.length c2) (setS l m).1.length (mcs (setS l m).1)) := by
  refine fn_enterW (args := [.slice a n c, .agg m.cells.toArray]) Try.func22 rfl Try.ntmps22 (by simp) ?_; refine sr ?_; refine tl_x rfl (o_box rfl rfl) ?_; rintro _ _ ⟨b3, rfl, rfl⟩; refine tla ?_; refine tla ?_; refine nq ?_; refine sr ?_; refine tlm ?_; refine tl_c rfl (o_call bd35 rfl (rMay_c (l := l))) ?_; rintro _ _ ⟨rfl, rfl⟩; refine tla ?_; refine nq ?_; refine tc_seq ?_; refine sr ?_; refine tlm ?_; refine tv (o_nei rfl rfl) ?_; refine nq ?_; refine tc_cond rfl (fun h => ?_) (fun h => ?_)
  · have hne : mayS l ≠ 0 := by first | omega | (simp at h; omega)
    refine sr ?_; refine tlm ?_; refine tla ?_; refine tla ?_; refine nq ?_; refine tc_ret ?_; refine q_then_r ?_
    have e0 : setS l m = ([], mayS l) := by unfold setS; rw [if_pos hne]
    rw [e0]
    exact ⟨.tuple #[.slice none 0 0, .int .i64 (mayS l)], A * Sl 3 (.slice none 0 0) 0 [], res2 rfl rfl rfl, fun _ _ h => sl_nil (Dr.sat (by repeat (first | with_reducible exact dr_refl | apply dr_keep | apply dr_drop)) _ _ h), none, 0, rfl, Nat.le_refl _, rfl⟩
  · have hne : mayS l = 0 := by first | omega | (simp at h; omega)
    have h32 := (may_zero hne).1
    refine tc_skip ?_; refine q_then_n ?_; refine tc_seq ?_; refine sr ?_; refine tv (o_fieldAddr (o := 1) Try.underlying35 rfl rfl sz3 rfl) ?_; refine tv (by first | exact o_load p3 rfl (by repeat (first | with_reducible exact has_here | with_reducible exact has_pt | apply has_left)) rfl | exact o_loadC p3 rfl (by assumption)) ?_; refine tv (o_lss rfl rfl) ?_; refine tlm ?_; refine tl_bool (d := 17) rfl (fun h => ?_) (fun h => ?_)
    · have g1 : m.at_ < 0 := by first | exact of_decide_eq_true h | exact h | simpa using h
      have hok : okM m = false := by unfold okM; rw [decide_eq_false (show ¬ 0 ≤ m.at_ by omega), Bool.false_and]
      refine tk ?_; refine tk ?_; refine tk ?_; refine tv (o_pick_t rfl (by conv => lhs; whnf)) ?_; refine nq ?_; refine tc_cond_t rfl ?_; refine sr ?_; refine tla ?_; refine tla ?_; refine nq ?_; refine tc_ret ?_; refine q_then_r ?_
      have e0 : setS l m = ([], 190) := by unfold setS; rw [if_neg (by simpa using hne), if_pos hok]
      rw [e0]
      exact ⟨.tuple #[.slice none 0 0, .int .i64 (190)], A * Sl 3 (.slice none 0 0) 0 [], res2 rfl rfl rfl, fun _ _ h => sl_nil (Dr.sat (by repeat (first | with_reducible exact dr_refl | apply dr_keep | apply dr_drop)) _ _ h), none, 0, rfl, Nat.le_refl _, rfl⟩
    · have g1 : ¬ m.at_ < 0 := by first | exact of_decide_eq_false h | exact h | simpa using h
      refine tv (o_fieldAddr (o := 2) Try.underlying35 rfl rfl sz5 rfl) ?_; refine tv (by first | exact o_load p5 rfl (by repeat (first | with_reducible exact has_here | with_reducible exact has_pt | apply has_left)) rfl | exact o_loadC p5 rfl (by assumption)) ?_; refine tv (o_gtr rfl rfl) ?_; refine tv (o_pick_f rfl (by conv => lhs; whnf)) ?_; refine nq ?_; refine tc_cond rfl (fun h => ?_) (fun h => ?_)
      · have hok : okM m = false := by first | assumption | unfold okM; rw [decide_eq_false (show ¬ m.gr ≤ 1 by first | omega | (simp at h; omega)), Bool.and_false]
        refine sr ?_; refine tla ?_; refine tla ?_; refine nq ?_; refine tc_ret ?_; refine q_then_r ?_
        have e0 : setS l m = ([], 190) := by unfold setS; rw [if_neg (by simpa using hne), if_pos hok]
        rw [e0]
        exact ⟨.tuple #[.slice none 0 0, .int .i64 (190)], A * Sl 3 (.slice none 0 0) 0 [], res2 rfl rfl rfl, fun _ _ h => sl_nil (Dr.sat (by repeat (first | with_reducible exact dr_refl | apply dr_keep | apply dr_drop)) _ _ h), none, 0, rfl, Nat.le_refl _, rfl⟩
      · have hok : okM m = true := by unfold okM; rw [decide_eq_true (show 0 ≤ m.at_ by omega), decide_eq_true (show m.gr ≤ 1 by first | omega | (simp at h; omega))]; rfl
        refine tc_skip ?_; refine q_then_n ?_; refine sr ?_; refine tla ?_; refine nq ?_; refine tc_seq ?_; refine sr ?_; refine tla ?_; refine nq ?_; refine tc_block ?_; refine tc_pre (A' := A * pt b3 (cl m.cells 35) * Sl 3 (.slice none 0 0) 0 (mcs (outM m.id (l.take 0)))) (fun _ _ h => sl_nil (Dr.sat (by repeat (first | with_reducible exact dr_refl | apply dr_keep | apply dr_drop)) _ _ h)) ?_; refine tc_loop (fun kk ρ BB => ∃ (i : Nat) (q : Nat) (a7 : Option Addr) (c7 : Nat), (i ≤ n) ∧ (q = (outM m.id (l.take i)).length) ∧ (q ≤ i) ∧ kk = n - i ∧ ρ 7 = .slice a7 q c7 ∧ ρ 8 = .int .i64 (i : Nat) ∧ ρ 0 = .slice a n c ∧ ρ 3 = .pointer (some ⟨b3, 0, none⟩) ∧ Dr BB (A * pt b3 (cl m.cells 35) * Sl 3 (.slice a7 q c7) q (mcs (outM m.id (l.take i))))) (m := n - (0)) ?_ ?_
        · exact ⟨0, 0, none, 0, by omega, rfl, by omega, rfl, rfl, rfl, rfl, rfl, (by repeat (first | with_reducible exact dr_refl | apply dr_keep | apply dr_drop))⟩
        · intro k ρ B hI
          obtain ⟨i, q, a7, c7, hp0, hp1, hp2, hkk1, hE7, hE8, hE0, hE3, hBA⟩ := hI
          refine tc_pre hBA.sat ?_
          clear hBA
          refine tc_env (d := 7) hE7 ?_; refine tc_env (d := 8) hE8 ?_; refine tc_env (d := 0) hE0 ?_; refine tc_env (d := 3) hE3 ?_
          clear hE7 hE8 hE0 hE3
          refine tc_seq ?_; refine sr ?_; refine tlm ?_; refine tlm ?_; refine tv (o_len Try.underlying22 rfl) ?_; refine tv (o_lss rfl rfl) ?_; refine nq ?_; refine tc_cond rfl (fun h => ?_) (fun h => ?_)
          · have hi : i < l.length := by first | omega | (simp at h; omega)
            obtain ⟨x, hx⟩ : ∃ x, l[i] = x := ⟨_, rfl⟩
            have htk : l.take (i + 1) = l.take i ++ [x] := by rw [List.take_succ_eq_append_getElem hi, hx]
            refine tc_skip ?_; refine q_then_n ?_; refine tc_seq ?_; refine tc_block ?_; refine tc_seq ?_; refine tc_regq mo (by kernel_rfl) ?_; refine ql_v rfl (o_move (by conv => lhs; whnf)) ?_; refine ql_v rfl (o_move (by conv => lhs; whnf)) ?_; refine ql_v rfl (o_ixP Try.underlying22 sz35 rfl rfl (by omega) (by repeat (first | exact nn_rs hr (fun _ => by rw [mcs_len]; omega) | apply Nn.left))) ?_; refine ql_v rfl (o_faP (m := 0) (o := 0) Try.underlying35 rfl rfl sz33 rfl (nn_rs (by repeat (first | exact hr | apply Rs.left)) (fun _ => by rw [mcs_len]; omega))) ?_; refine ql_v rfl (o_ldP p33 rfl (by repeat (first | exact hr | apply Rs.left)) (by rw [mcs_f0 hi])) ?_; refine ql_env (d := 32) (v := .int .u32 (x.id : Nat)) (by rw [← hx]; rfl) ?_; refine ql_v rfl (o_fieldAddr (o := 0) Try.underlying35 rfl rfl sz33 rfl) ?_; refine ql_v rfl (by first | exact o_load p33 rfl (by repeat (first | with_reducible exact has_here | with_reducible exact has_pt | apply has_left)) rfl | exact o_loadC p33 rfl (by assumption)) ?_; refine ql_v rfl (o_nei rfl rfl) ?_; refine ql_nil ?_; refine q_then_n ?_; refine tc_cond rfl (fun h => ?_) (fun h => ?_)
            · have hxm : x.id ≠ m.id := by first | omega | (simp at h; omega)
              have hL_ : outM m.id (l.take (i + 1)) = outM m.id (l.take i) ++ [x] := by rw [htk]; unfold outM; rw [List.filter_append, List.filter_cons_of_pos (by simpa using hxm)]; rfl
              have hq_ : q + 1 = (outM m.id (l.take (i + 1))).length := by rw [hL_, List.length_append, ← hp1]; rfl
              refine tc_reg ?_; refine tlm ?_; refine tlm ?_; refine tlm ?_; refine tv (o_ixP Try.underlying22 sz35 rfl rfl (by omega) (by repeat (first | exact nn_rs hr (fun _ => by rw [mcs_len]; omega) | apply Nn.left))) ?_; refine tv (o_ldPN (vs := (x).cells) a35 sz35 rfl (by repeat (first | exact hr | apply Rs.left)) (by rw [mcs_at (by omega), hx]) rfl (by decide)) ?_; refine tl_x rfl (o_buildSliceK (k := 3) (l := (x).cells) Try.underlying22 sz35 z35 rfl rfl (by decide)) ?_; rintro _ _ ⟨b41, rfl, rfl⟩; refine tl_x rfl (o_apB Try.underlying22 Try.underlying22 sz35 by35 z35 rfl (by decide) (by decide) rfl rfl rfl (by repeat (first | with_reducible exact ct_here | apply ct_left)) rfl rfl (by omega) (show _ = mcs (outM m.id (l.take i) ++ [x]) by rw [mcs_append]; rfl)) ?_; rintro _ _ ⟨a42, c42, rfl, hc42, rfl⟩; refine tla ?_; refine tl_nil ?_; refine q_block_n (q_then_n ?_); refine tc_reg ?_; refine tlm ?_; refine tv (by first | exact o_addI rfl rfl (by omega) | exact o_add rfl rfl) ?_; refine tla ?_; refine nq ?_; exact ⟨_, by omega, i + 1, _, _, _, by omega, by exact hq_, by omega, rfl, rfl, rfl, rfl, rfl, by rw [hL_]; repeat (first | with_reducible exact dr_refl | apply dr_keep | apply dr_drop)⟩
            · have hxm : x.id = m.id := by first | omega | (simp at h; omega)
              have hL_ : outM m.id (l.take (i + 1)) = outM m.id (l.take i) := by rw [htk]; unfold outM; rw [List.filter_append, List.filter_cons_of_neg (by simpa using hxm)]; simp
              have hq_ : q = (outM m.id (l.take (i + 1))).length := by rw [hL_]; exact hp1
              refine tc_skip ?_; refine q_block_n (q_then_n ?_); refine tc_reg ?_; refine tlm ?_; refine tv (by first | exact o_addI rfl rfl (by omega) | exact o_add rfl rfl) ?_; refine tla ?_; refine nq ?_; exact ⟨_, by omega, i + 1, _, _, _, by omega, by exact hq_, by omega, rfl, rfl, rfl, rfl, rfl, by rw [hL_]; repeat (first | with_reducible exact dr_refl | apply dr_keep | apply dr_drop)⟩
          · obtain rfl : i = n := by first | omega | (simp at h; omega)
            have hta : l.take i = l := List.take_of_length_le (by omega)
            rw [hta] at hp1
            refine tc_eq (show _ = A * pt b3 (cl m.cells 35) * Sl 3 (.slice a7 q c7) q (mcs (outM m.id l)) by rw [hta]) ?_; refine tc_exit ?_; refine q_then_e (q_then_e (q_block_x (q_then_n ?_))); refine tc_seq ?_; refine sr ?_; refine tlm ?_; refine tv (o_len Try.underlying22 rfl) ?_; refine tv (o_eqi rfl rfl) ?_; refine nq ?_; refine tc_cond rfl (fun h => ?_) (fun h => ?_)
            · have h3 : (outM m.id l).length = 32 := by rw [← hp1]; first | omega | (simp at h; omega)
              refine sr ?_; refine tla ?_; refine tla ?_; refine nq ?_; refine tc_ret ?_; refine q_then_r ?_
              have e0 : setS l m = ([], 191) := by unfold setS; rw [if_neg (by simpa using hne), if_neg (by rw [hok]; decide), if_pos h3]
              rw [e0]
              exact ⟨.tuple #[.slice none 0 0, .int .i64 (191)], A * Sl 3 (.slice none 0 0) 0 [], res2 rfl rfl rfl, fun _ _ h => sl_nil (Dr.sat (by repeat (first | with_reducible exact dr_refl | apply dr_keep | apply dr_drop)) _ _ h), none, 0, rfl, Nat.le_refl _, rfl⟩
            · have h3 : (outM m.id l).length ≠ 32 := by rw [← hp1]; first | omega | (simp at h; omega)
              refine tc_skip ?_; refine q_then_n ?_; refine sr ?_; refine tlm ?_; refine tv (o_loadN (vs := (m).cells) a35 sz35 rfl (by repeat (first | with_reducible exact has_here | with_reducible exact has_pt | apply has_left)) (by show 3 ≤ 3; decide) rfl) ?_; refine tl_x rfl (o_buildSliceK (k := 3) (l := (m).cells) Try.underlying22 sz35 z35 rfl rfl (by decide)) ?_; rintro _ _ ⟨b48, rfl, rfl⟩; refine tl_x rfl (o_apB Try.underlying22 Try.underlying22 sz35 by35 z35 rfl (by decide) (by decide) rfl rfl rfl (by repeat (first | with_reducible exact ct_here | apply ct_left)) rfl rfl (by omega) (show _ = mcs (outM m.id l ++ [m]) by rw [mcs_append]; rfl)) ?_; rintro _ _ ⟨a49, c49, rfl, hc49, rfl⟩; refine tl_c rfl (o_call bd38 rfl (sorted_c (l := outM m.id l ++ [m]) (pl := false) (hr := rs_sl) (hm := by rw [List.length_append, hp1]; rfl))) ?_; rintro _ _ ⟨a50, c50, rfl, hc50, rfl⟩; refine tla ?_; refine tla ?_; refine nq ?_; refine tc_ret ?_
              have e0 : setS l m = (srt (ltc cId) (outM m.id l ++ [m]), 0) := by unfold setS; rw [if_neg (by simpa using hne), if_neg (by rw [hok]; decide), if_neg h3]
              rw [e0]
              have el : (srt (ltc cId) (outM m.id l ++ [m])).length = q + 1 := by rw [srt_length cId_swo, List.length_append, hp1]; rfl
              exact ⟨.tuple #[.slice a50 (q + 1) c50, .int .i64 0], A * Sl 3 (.slice a50 (q + 1) c50) (q + 1) (mcs (srt (ltc cId) (outM m.id l ++ [m]))), res2 rfl rfl rfl, Dr.sat (by repeat (first | with_reducible exact dr_refl | apply dr_keep | apply dr_drop)), a50, c50, by rw [el], by rw [el]; exact hc50, by rw [el]⟩
set_option maxRecDepth 20000 in
set_option maxHeartbeats 2000000 in
theorem rUnset_c {A : SP} {a : Option Addr} {c n : Nat} {l : List Mk} {id : Nat} (hr : Rs A a (mcs l) := by repeat (first | assumption | with_reducible exact rs_sl | with_reducible exact rs_pt0 | exact rs_none | apply Rs.left)) (hm : l.length = n := by first | assumption | rfl) (hs : n ≤ 5864062014800 := by omega) :
    Fn Try.prog 24 #[.slice a n c, .int .u32 (id : Nat)] (A) (fun r B => ∃ a2 c2, r = .tuple #[.slice a2 (unsetS l id).1.length c2, .int .i64 (unsetS l id).2] ∧ (unsetS l id).1.length ≤ c2 ∧ B = A * Sl 3 (.slice a2 (unsetS l id).1.length c2) (unsetS l id).1.length (mcs (unsetS l id).1)) := by
  refine fn_enterW (args := [.slice a n c, .int .u32 (id : Nat)]) Try.func24 rfl Try.ntmps24 (by simp) ?_; refine sr ?_; refine tla ?_; refine tla ?_; refine nq ?_; refine sr ?_; refine tlm ?_; refine tl_c rfl (o_call bd35 rfl (rMay_c (l := l))) ?_; rintro _ _ ⟨rfl, rfl⟩; refine tla ?_; refine nq ?_; refine tc_seq ?_; refine sr ?_; refine tlm ?_; refine tv (o_nei rfl rfl) ?_; refine nq ?_; refine tc_cond rfl (fun h => ?_) (fun h => ?_)
  · have hne : mayS l ≠ 0 := by first | omega | (simp at h; omega)
    refine sr ?_; refine tlm ?_; refine tla ?_; refine tla ?_; refine nq ?_; refine tc_ret ?_; refine q_then_r ?_
    have e0 : unsetS l id = ([], mayS l) := by unfold unsetS; rw [if_pos hne]
    rw [e0]
    exact ⟨.tuple #[.slice none 0 0, .int .i64 (mayS l)], A * Sl 3 (.slice none 0 0) 0 [], res2 rfl rfl rfl, fun _ _ h => sl_nil (Dr.sat (by repeat (first | with_reducible exact dr_refl | apply dr_keep | apply dr_drop)) _ _ h), none, 0, rfl, Nat.le_refl _, rfl⟩
  · have hne : mayS l = 0 := by first | omega | (simp at h; omega)
    have h32 := (may_zero hne).1
    refine tc_skip ?_; refine q_then_n ?_; refine sr ?_; refine tla ?_; refine nq ?_; refine tc_seq ?_; refine sr ?_; refine tla ?_; refine nq ?_; refine tc_block ?_; refine tc_pre (A' := A * Sl 3 (.slice none 0 0) 0 (mcs (outM id (l.take 0)))) (fun _ _ h => sl_nil (Dr.sat (by repeat (first | with_reducible exact dr_refl | apply dr_keep | apply dr_drop)) _ _ h)) ?_; refine tc_loop (fun kk ρ BB => ∃ (i : Nat) (q : Nat) (a7 : Option Addr) (c7 : Nat), (i ≤ n) ∧ (q = (outM id (l.take i)).length) ∧ (q ≤ i) ∧ kk = n - i ∧ ρ 7 = .slice a7 q c7 ∧ ρ 8 = .int .i64 (i : Nat) ∧ ρ 0 = .slice a n c ∧ ρ 1 = .int .u32 (id : Nat) ∧ Dr BB (A * Sl 3 (.slice a7 q c7) q (mcs (outM id (l.take i))))) (m := n - (0)) ?_ ?_
    · exact ⟨0, 0, none, 0, by omega, rfl, by omega, rfl, rfl, rfl, rfl, rfl, (by repeat (first | with_reducible exact dr_refl | apply dr_keep | apply dr_drop))⟩
    · intro k ρ B hI
      obtain ⟨i, q, a7, c7, hp0, hp1, hp2, hkk1, hE7, hE8, hE0, hE1, hBA⟩ := hI
      refine tc_pre hBA.sat ?_
      clear hBA
      refine tc_env (d := 7) hE7 ?_; refine tc_env (d := 8) hE8 ?_; refine tc_env (d := 0) hE0 ?_; refine tc_env (d := 1) hE1 ?_
      clear hE7 hE8 hE0 hE1
      refine tc_seq ?_; refine sr ?_; refine tlm ?_; refine tlm ?_; refine tv (o_len Try.underlying22 rfl) ?_; refine tv (o_lss rfl rfl) ?_; refine nq ?_; refine tc_cond rfl (fun h => ?_) (fun h => ?_)
      · have hi : i < l.length := by first | omega | (simp at h; omega)
        obtain ⟨x, hx⟩ : ∃ x, l[i] = x := ⟨_, rfl⟩
        have htk : l.take (i + 1) = l.take i ++ [x] := by rw [List.take_succ_eq_append_getElem hi, hx]
        refine tc_skip ?_; refine q_then_n ?_; refine tc_seq ?_; refine tc_block ?_; refine sr ?_; refine tlm ?_; refine tlm ?_; refine tv (o_ixP Try.underlying22 sz35 rfl rfl (by omega) (by repeat (first | exact nn_rs hr (fun _ => by rw [mcs_len]; omega) | apply Nn.left))) ?_; refine tv (o_faP (m := 0) (o := 0) Try.underlying35 rfl rfl sz33 rfl (nn_rs (by repeat (first | exact hr | apply Rs.left)) (fun _ => by rw [mcs_len]; omega))) ?_; refine tv (o_ldP p33 rfl (by repeat (first | exact hr | apply Rs.left)) (by rw [mcs_f0 hi])) ?_; refine tl_env (d := 24) (v := .int .u32 (x.id : Nat)) (by rw [← hx]; rfl) ?_; refine tlm ?_; refine tv (o_nei rfl rfl) ?_; refine nq ?_; refine tc_cond rfl (fun h => ?_) (fun h => ?_)
        · have hxm : x.id ≠ id := by first | omega | (simp at h; omega)
          have hL_ : outM id (l.take (i + 1)) = outM id (l.take i) ++ [x] := by rw [htk]; unfold outM; rw [List.filter_append, List.filter_cons_of_pos (by simpa using hxm)]; rfl
          have hq_ : q + 1 = (outM id (l.take (i + 1))).length := by rw [hL_, List.length_append, ← hp1]; rfl
          refine tc_reg ?_; refine tlm ?_; refine tlm ?_; refine tlm ?_; refine tv (o_ixP Try.underlying22 sz35 rfl rfl (by omega) (by repeat (first | exact nn_rs hr (fun _ => by rw [mcs_len]; omega) | apply Nn.left))) ?_; refine tv (o_ldPN (vs := (x).cells) a35 sz35 rfl (by repeat (first | exact hr | apply Rs.left)) (by rw [mcs_at (by omega), hx]) rfl (by decide)) ?_; refine tl_x rfl (o_buildSliceK (k := 3) (l := (x).cells) Try.underlying22 sz35 z35 rfl rfl (by decide)) ?_; rintro _ _ ⟨b32, rfl, rfl⟩; refine tl_x rfl (o_apB Try.underlying22 Try.underlying22 sz35 by35 z35 rfl (by decide) (by decide) rfl rfl rfl (by repeat (first | with_reducible exact ct_here | apply ct_left)) rfl rfl (by omega) (show _ = mcs (outM id (l.take i) ++ [x]) by rw [mcs_append]; rfl)) ?_; rintro _ _ ⟨a33, c33, rfl, hc33, rfl⟩; refine tla ?_; refine tl_nil ?_; refine q_block_n (q_then_n ?_); refine tc_reg ?_; refine tlm ?_; refine tv (by first | exact o_addI rfl rfl (by omega) | exact o_add rfl rfl) ?_; refine tla ?_; refine nq ?_; exact ⟨_, by omega, i + 1, _, _, _, by omega, by exact hq_, by omega, rfl, rfl, rfl, rfl, rfl, by rw [hL_]; repeat (first | with_reducible exact dr_refl | apply dr_keep | apply dr_drop)⟩
        · have hxm : x.id = id := by first | omega | (simp at h; omega)
          have hL_ : outM id (l.take (i + 1)) = outM id (l.take i) := by rw [htk]; unfold outM; rw [List.filter_append, List.filter_cons_of_neg (by simpa using hxm)]; simp
          have hq_ : q = (outM id (l.take (i + 1))).length := by rw [hL_]; exact hp1
          refine tc_skip ?_; refine q_block_n (q_then_n ?_); refine tc_reg ?_; refine tlm ?_; refine tv (by first | exact o_addI rfl rfl (by omega) | exact o_add rfl rfl) ?_; refine tla ?_; refine nq ?_; exact ⟨_, by omega, i + 1, _, _, _, by omega, by exact hq_, by omega, rfl, rfl, rfl, rfl, rfl, by rw [hL_]; repeat (first | with_reducible exact dr_refl | apply dr_keep | apply dr_drop)⟩
      · obtain rfl : i = n := by first | omega | (simp at h; omega)
        have hta : l.take i = l := List.take_of_length_le (by omega)
        rw [hta] at hp1
        refine tc_eq (show _ = A * Sl 3 (.slice a7 q c7) q (mcs (outM id l)) by rw [hta]) ?_; refine tc_exit ?_; refine q_then_e (q_then_e (q_block_x (q_then_n ?_))); refine tc_seq ?_; refine sr ?_; refine tlm ?_; refine tv (o_len Try.underlying22 rfl) ?_; refine tlm ?_; refine tv (o_len Try.underlying22 rfl) ?_; refine tv (o_eqi rfl rfl) ?_; refine nq ?_; refine tc_cond rfl (fun h => ?_) (fun h => ?_)
        · have h3 : (outM id l).length = l.length := by rw [← hp1]; first | omega | (simp at h; omega)
          refine sr ?_; refine tla ?_; refine tla ?_; refine nq ?_; refine tc_ret ?_; refine q_then_r ?_
          have e0 : unsetS l id = ([], 190) := by unfold unsetS; rw [if_neg (by simpa using hne), if_pos h3]
          rw [e0]
          exact ⟨.tuple #[.slice none 0 0, .int .i64 (190)], A * Sl 3 (.slice none 0 0) 0 [], res2 rfl rfl rfl, fun _ _ h => sl_nil (Dr.sat (by repeat (first | with_reducible exact dr_refl | apply dr_keep | apply dr_drop)) _ _ h), none, 0, rfl, Nat.le_refl _, rfl⟩
        · have h3 : (outM id l).length ≠ l.length := by rw [← hp1]; first | omega | (simp at h; omega)
          refine tc_skip ?_; refine q_then_n ?_; refine sr ?_; refine tlm ?_; refine tl_c rfl (o_call bd38 rfl (sorted_c (l := outM id l) (pl := false) (hr := rs_sl) (hm := hp1.symm))) ?_; rintro _ _ ⟨a40, c40, rfl, hc40, rfl⟩; refine tla ?_; refine tla ?_; refine nq ?_; refine tc_ret ?_
          have e0 : unsetS l id = (srt (ltc cId) (outM id l), 0) := by unfold unsetS; rw [if_neg (by simpa using hne), if_neg h3]
          rw [e0]
          have el : (srt (ltc cId) (outM id l)).length = q := by rw [srt_length cId_swo, hp1]
          exact ⟨.tuple #[.slice a40 q c40, .int .i64 0], A * Sl 3 (.slice a40 q c40) q (mcs (srt (ltc cId) (outM id l))), res2 rfl rfl rfl, Dr.sat (by repeat (first | with_reducible exact dr_refl | apply dr_keep | apply dr_drop)), a40, c40, by rw [el], by rw [el]; exact hc40, by rw [el]⟩
set_option maxRecDepth 20000 in
set_option maxHeartbeats 2000000 in
theorem rSame_c {A : SP} {a b : Option Addr} {c n d m : Nat} {l r2 : List Mk} (hr : Rs A a (mcs l) := by repeat (first | assumption | with_reducible exact rs_sl | with_reducible exact rs_pt0 | exact rs_none | apply Rs.left)) (hr2 : Rs A b (mcs r2) := by repeat (first | assumption | with_reducible exact rs_sl | with_reducible exact rs_pt0 | exact rs_none | apply Rs.left)) (hm : l.length = n := by first | assumption | rfl) (hm2 : r2.length = m := by first | assumption | rfl) (hs : n ≤ 1125899906842624 := by omega) (hs2 : m ≤ 1125899906842624 := by omega) :
    Fn Try.prog 39 #[.slice a n c, .slice b m d] (A) (fun r B => r = .bool (decide (l = r2)) ∧ A = B) := by
  refine fn_enterW (args := [.slice a n c, .slice b m d]) Try.func39 rfl Try.ntmps39 (by simp) ?_; refine sr ?_; refine tla ?_; refine nq ?_; refine tc_seq ?_; refine sr ?_; refine tlm ?_; refine tv (o_len Try.underlying22 rfl) ?_; refine tlm ?_; refine tv (o_len Try.underlying22 rfl) ?_; refine tv (o_nei rfl rfl) ?_; refine nq ?_; refine tc_cond rfl (fun h => ?_) (fun h => ?_)
  · have hne : l.length ≠ r2.length := by first | omega | (simp at h; omega)
    refine sr ?_; refine tla ?_; refine nq ?_; refine tc_ret ?_; refine q_then_r ?_; refine ⟨.bool false, _, res1 rfl rfl, ?_, (by rw [decide_eq_false (fun e => hne (by rw [e]))]), rfl⟩; exact Dr.sat (by repeat (first | with_reducible exact dr_refl | apply dr_keep | apply dr_drop))
  · have hle : l.length = r2.length := by first | omega | (simp at h; omega)
    refine tc_skip ?_; refine q_then_n ?_; refine tc_seq ?_; refine sr ?_; refine tla ?_; refine nq ?_; refine tc_block ?_; refine tc_loop (fun kk ρ BB => ∃ (i : Nat), (i ≤ n) ∧ (l.take i = r2.take i) ∧ kk = n - i ∧ ρ 5 = .int .i64 (i : Nat) ∧ ρ 0 = .slice a n c ∧ ρ 1 = .slice b m d ∧ BB = A) (m := n - (0)) ?_ ?_
    · exact ⟨0, by omega, rfl, rfl, rfl, rfl, rfl, rfl⟩
    · intro k ρ B hI
      obtain ⟨i, hp0, hp1, hkk1, hE5, hE0, hE1, hBA⟩ := hI
      obtain rfl := hBA.symm
      refine tc_env (d := 5) hE5 ?_; refine tc_env (d := 0) hE0 ?_; refine tc_env (d := 1) hE1 ?_
      clear hE5 hE0 hE1
      refine tc_seq ?_; refine sr ?_; refine tlm ?_; refine tlm ?_; refine tv (o_len Try.underlying22 rfl) ?_; refine tv (o_lss rfl rfl) ?_; refine nq ?_; refine tc_cond rfl (fun h => ?_) (fun h => ?_)
      · have hi : i < l.length := by first | omega | (simp at h; omega)
        refine tc_skip ?_; refine q_then_n ?_; refine tc_seq ?_; refine tc_block ?_; refine tc_seq ?_; refine tc_regq mo (by kernel_rfl) ?_; refine ql_v rfl (o_move (by conv => lhs; whnf)) ?_; refine ql_v rfl (o_move (by conv => lhs; whnf)) ?_; refine ql_v rfl (o_ixP Try.underlying22 sz35 rfl rfl (by omega) (by repeat (first | exact nn_rs hr (fun _ => by rw [mcs_len]; omega) | apply Nn.left))) ?_; refine ql_v rfl (o_ldPN (vs := (l[i]).cells) a35 sz35 rfl (by repeat (first | exact hr | apply Rs.left)) (mcs_at (by omega)) rfl (by decide)) ?_; refine ql_v rfl (o_move (by conv => lhs; whnf)) ?_; refine ql_v rfl (o_move (by conv => lhs; whnf)) ?_; refine ql_v rfl (o_ixP Try.underlying22 sz35 rfl rfl (by omega) (by repeat (first | exact nn_rs hr2 (fun _ => by rw [mcs_len]; omega) | apply Nn.left))) ?_; refine ql_v rfl (o_ldPN (vs := (r2[i]'(by omega)).cells) a35 sz35 rfl (by repeat (first | exact hr2 | apply Rs.left)) (mcs_at (by omega)) rfl (by decide)) ?_; refine ql_v rfl (o_neMk rfl rfl) ?_; refine ql_nil ?_; refine q_then_n ?_; refine tc_cond rfl (fun h => ?_) (fun h => ?_)
        · have hne : l[i] ≠ r2[i]'(by omega) := by first | exact of_decide_eq_true h | exact h | simpa using h
          refine sr ?_; refine tla ?_; refine nq ?_; refine tc_ret ?_; refine q_block_r (q_then_r (q_then_r (q_block_r (q_then_r ?_)))); refine ⟨.bool false, _, res1 rfl rfl, ?_, (by rw [decide_eq_false (fun e => hne (by subst e; rfl))]), rfl⟩; exact Dr.sat (by repeat (first | with_reducible exact dr_refl | apply dr_keep | apply dr_drop))
        · have heq : l[i] = r2[i]'(by omega) := by simpa using h
          refine tc_skip ?_; refine q_block_n (q_then_n ?_); refine tc_reg ?_; refine tlm ?_; refine tv (by first | exact o_addI rfl rfl (by omega) | exact o_add rfl rfl) ?_; refine tla ?_; refine nq ?_; exact ⟨_, by omega, i + 1, by omega, by rw [List.take_succ_eq_append_getElem hi, List.take_succ_eq_append_getElem (show i < r2.length by omega), hp1, heq], rfl, rfl, rfl, rfl, rfl⟩
      · have hi : n ≤ i := by first | omega | (simp at h; omega)
        rw [List.take_of_length_le (by omega), List.take_of_length_le (by omega)] at hp1
        refine tc_exit ?_; refine q_then_e (q_then_e (q_block_x (q_then_n ?_))); refine sr ?_; refine tla ?_; refine nq ?_; refine tc_ret ?_; refine ⟨.bool true, _, res1 rfl rfl, ?_, (by rw [decide_eq_true hp1]), rfl⟩; exact Dr.sat (by repeat (first | with_reducible exact dr_refl | apply dr_keep | apply dr_drop))
end Go.Vl

set_option linter.unusedVariables false
set_option linter.unusedSimpArgs false
namespace Go.Vl
open Go Go.Proofs
theorem old_heap' {W w : World} {g : Gh} (h : sat g w (old W)) {k : Nat} (hk : k < W.heap.size) : w.heap[k]? = W.heap[k]? := by
  obtain ⟨x, rfl, hx⟩ := h.hp
  have := Array.getElem?_eq_getElem hk
  rw [this]; exact hx _ _ true (by simp [this])
theorem cell_old' {W : World} {b off : Nat} {v : Value} (h : W.cell? ⟨b, off, none⟩ = some v) : Cell (old W) b off v := fun g w hs => by
  have hb : b < W.heap.size := by
    rcases Nat.lt_or_ge b W.heap.size with h1 | h1
    · exact h1
    · exfalso
      have : W.heap[b]? = none := Array.getElem?_eq_none h1
      simp [World.cell?, this] at h
  have := old_heap' hs hb
  rw [← h]; simp only [World.cell?, this]
theorem rs_old {W : World} {a : Addr} {xs : List Value} (h : ∀ i v, xs[i]? = some v → W.cell? (a.add i) = some v) : Rs (old W) (some a) xs := by
  cases xs with
  | nil => exact rs_nil
  | cons x l =>
    obtain ⟨b, off, spot⟩ := a
    have h0 := h 0 x rfl
    have hspot : spot = none := by simpa [Addr.add] using World.cell?_spot h0
    subst hspot
    refine fun g w hs i v hv => ⟨b, off, rfl, ?_⟩
    have := h i v hv
    rw [WideShapes.add_plain] at this
    exact cell_old' this g w hs
/-- Whatever lies there as a value of type t, by the argument's own reading, r holds of. -/
def Rdb {α : Type} (P : Program) (W : World) (t : TypeId) (r : List Value → α → Prop) : Prop :=
  ∀ (H : Type) (enc : TypeId × Value → H) (spare : Nat → Bool) (held : Bool) (fuel : Nat) (cs : List Value) (d : DataW H) (pl : List MemPlace),
    DataW.trod enc P W 0 spare held fuel t cs = some (d, pl) → (∀ n ∈ d.weights P t, n ≤ reachBytes) → ∃ x, r cs x
theorem Rdb.mono {α β : Type} {P : Program} {W : World} {t : TypeId} {r : List Value → α → Prop} {q : List Value → β → Prop} (h : Rdb P W t r) (k : ∀ cs x, r cs x → ∃ y, q cs y) : Rdb P W t q :=
  fun H enc sp hd fu cs d pl h1 h2 => by obtain ⟨x, hx⟩ := h H enc sp hd fu cs d pl h1 h2; exact k cs x hx
def PInt (k : IntKind) (cs : List Value) (n : Int) : Prop := cs = [.int k n] ∧ (Lit.int k n).wf = true
theorem rdb_int {P : Program} {W : World} {t : TypeId} {k : IntKind} (ht : P.underlying t = some (.int k)) : Rdb P W t (PInt k) := fun H enc sp hd fu cs d pl h _ => by
  obtain ⟨n, e, _, hw⟩ := DataW.trod_int ht h
  exact ⟨n, e, hw⟩
def PBool (cs : List Value) (b : Bool) : Prop := cs = [.bool b]
/-- A slice: its elements' cells, and what each is. -/
def PSl {α : Type} (A : SP) (k b : Nat) (r : List Value → α → Prop) (cs : List Value) (xs : List α) : Prop :=
  ∃ (a : Option Addr) (cap : Nat) (Cs : List (List Value)), cs = [.slice a xs.length cap] ∧ xs.length ≤ cap ∧ xs.length * b ≤ reachBytes ∧ Cs.length = xs.length ∧ (∀ i (h : i < xs.length) (h' : i < Cs.length), Cs[i].length = k ∧ r Cs[i] xs[i]) ∧ Rs A a Cs.flatten
theorem weightsAll_mem {H : Type} {P : Program} {e : TypeId} : ∀ {l : List (DataW H)} {d : DataW H}, d ∈ l → ∀ n ∈ d.weights P e, n ∈ DataW.weightsAll P e l
  | x :: l, d, h, n, hn => by
    simp only [DataW.weightsAll, List.mem_append]
    rcases List.mem_cons.1 h with rfl | h
    · exact .inl hn
    · exact .inr (weightsAll_mem h n hn)
theorem flat_at {k : Nat} : ∀ {Cs : List (List Value)} (_ : ∀ c ∈ Cs, c.length = k) {i j : Nat} (_ : j < k) (hi : i < Cs.length), Cs.flatten[i * k + j]? = Cs[i][j]?
  | c :: Cs, h, 0, j, hj, _ => by
    rw [Nat.zero_mul, Nat.zero_add, List.flatten_cons, List.getElem?_append_left (by rw [h c (by simp)]; exact hj)]; rfl
  | c :: Cs, h, i + 1, j, hj, hi => by
    have hc := h c (by simp)
    rw [List.flatten_cons, List.getElem?_append_right (by rw [hc, Nat.add_mul]; omega), hc, show (i + 1) * k + j - k = i * k + j by rw [Nat.add_mul]; omega]
    exact flat_at (fun x hx => h x (List.mem_cons_of_mem _ hx)) hj (by simpa using hi)
theorem flat_length {k : Nat} : ∀ {Cs : List (List Value)} (_ : ∀ c ∈ Cs, c.length = k), Cs.flatten.length = Cs.length * k
  | [], _ => by simp
  | c :: Cs, h => by
    rw [List.flatten_cons, List.length_append, h c (by simp), flat_length (fun x hx => h x (List.mem_cons_of_mem _ hx)), List.length_cons, Nat.add_mul]; omega
theorem rdb_slice {α : Type} {P : Program} {W : World} {t e : TypeId} {k b : Nat} {r : List Value → α → Prop} (ht : P.underlying t = some (.slice e)) (hk : P.cellsOf e = k) (hb : P.bytesOf e = b) (hk0 : 0 < k) (hr : Rdb P W e r) : Rdb P W t (PSl (old W) k b r) := fun H enc sp hd fu cs d pl h hw => by
  rcases Deep.open_slice ht h with ⟨rfl, _⟩ | ⟨a, len, cap, m, n, D, Pl, rfl, _, hl, _, hm, hx, hel⟩
  · exact ⟨[], none, 0, [], rfl, Nat.le_refl _, by simp, rfl, fun i h => by simp at h, rs_nil⟩
  · have hlm : len ≤ m := by rw [hm]; split <;> omega
    simp only [Prod.mk.injEq] at hx
    obtain ⟨rfl, _⟩ := hx
    have hall : ∀ n ∈ DataW.weights P t (DataW.slice ((List.range len).map D) ((List.range (m - len)).map fun j => D (len + j))), n ≤ reachBytes := hw
    have hw1 : (len + (m - len)) * P.bytesOf e ≤ reachBytes := by
      have := hall ((len + (m - len)) * P.bytesOf e) (by simp [DataW.weights, ht])
      exact this
    have hex : ∀ i, i < len → ∃ p : List Value × α, p.1.length = k ∧ r p.1 p.2 ∧ ∀ j v, p.1[j]? = some v → W.cell? (a.add (i * k + j)) = some v := fun i hi => by
      obtain ⟨cs', h1, h2⟩ := hel i (by omega)
      rw [hk] at h1
      obtain ⟨_, hlen, h3⟩ := World.cells?_some h1
      obtain ⟨x, hx⟩ := hr H enc sp hd n cs' (D i) (Pl i) h2 (fun n hn => hall n (by
        simp only [DataW.weights, ht, List.mem_cons, List.mem_append]
        refine .inr (.inl (weightsAll_mem (d := D i) ?_ n hn))
        exact List.mem_map.2 ⟨i, List.mem_range.2 hi, rfl⟩))
      refine ⟨(cs', x), hlen, hx, fun j v hv => ?_⟩
      have hj : j < k := by have h9 : j < cs'.length := lt_at hv; omega
      have := h3 j hj
      rw [Deep.add_add] at this
      rw [this, hv]
    rcases Nat.eq_zero_or_pos len with h0 | h0
    · subst h0
      exact ⟨[], some a, cap, [], rfl, Nat.zero_le _, by simp, rfl, fun i h => by simp at h, rs_nil⟩
    · obtain ⟨p0, _⟩ := hex 0 h0
      haveI : Inhabited (List Value × α) := ⟨p0⟩
      obtain ⟨f, hf⟩ := Deep.choose_lt hex
      refine ⟨(List.range len).map fun i => (f i).2, some a, cap, (List.range len).map fun i => (f i).1, by simp, by simpa using hl, ?_, by simp, fun i h h' => ?_, rs_old fun i v hv => ?_⟩
      · simp only [List.length_map, List.length_range, ← hb]
        exact Nat.le_trans (Nat.mul_le_mul_right _ (by omega)) hw1
      · simp only [List.length_map, List.length_range] at h
        simp only [List.getElem_map, List.getElem_range]
        exact ⟨(hf i h).1, (hf i h).2.1⟩
      · have hCk : ∀ c ∈ (List.range len).map fun i => (f i).1, c.length = k := fun c hc => by
          obtain ⟨i, hi, rfl⟩ := List.mem_map.1 hc
          exact (hf i (List.mem_range.1 hi)).1
        have hi := lt_at hv
        rw [flat_length hCk, List.length_map, List.length_range] at hi
        have hq : i / k < len := Nat.div_lt_of_lt_mul (by rw [Nat.mul_comm]; exact hi)
        have hm2 : i % k < k := Nat.mod_lt _ hk0
        have e : i = i / k * k + i % k := (Nat.div_add_mod' i k).symm
        rw [e, flat_at hCk hm2 (by simpa using hq)] at hv
        simp only [List.getElem_map, List.getElem_range] at hv
        rw [e]
        exact (hf (i / k) hq).2.2 _ v hv
/-- The fields of a struct, one by one. -/
theorem rdb_fields {P : Program} {W : World} {t : TypeId} {fs : Array Field} (ht : P.underlying t = some (.struct fs)) {H : Type} {enc : TypeId × Value → H} {sp : Nat → Bool} {hd : Bool} {fu : Nat} {cs : List Value} {d : DataW H} {pl : List MemPlace}
    (h : DataW.trod enc P W 0 sp hd fu t cs = some (d, pl)) (hw : ∀ n ∈ d.weights P t, n ≤ reachBytes) : cs.length = P.cellsOf t ∧
    ∀ (j : Nat) (f : Field), fs[j]? = some f → ∀ {α : Type} {r : List Value → α → Prop}, Rdb P W f.type r → ∃ x, r ((cs.drop f.offset).take (P.cellsOf f.type)) x := by
  obtain ⟨xs, n, _, hx, hl, hlen, hf⟩ := DataW.trod_struct ht h
  refine ⟨hl, fun j f hj α r hr => ?_⟩
  simp only [Prod.mk.injEq] at hx
  obtain ⟨rfl, _⟩ := hx
  have hj' : j < xs.length := by
    have h1 : j < fs.size := (Array.getElem?_eq_some_iff.1 hj).1
    have h2 : xs.length = fs.size := by simpa using hlen
    omega
  have := hf j f hj
  rw [List.getElem?_eq_getElem hj'] at this
  refine hr H enc sp hd n _ xs[j].1 xs[j].2 this (fun m hm => hw m ?_)
  simp only [DataW.weights, ht]
  exact DataW.weights_mem_each (ts := fs.toList.map (·.type)) (ds := xs.map (·.1)) (j := j) (t := f.type) (d := xs[j].1) (by simp [hj]) (by simp [hj']) m hm
/-- Bytes. -/
def PBys (A : SP) (cs : List Value) (xs : List Nat) : Prop := ∃ a cap, cs = [.slice a xs.length cap] ∧ xs.length ≤ cap ∧ xs.length ≤ 140737488351232 ∧ Rs A a (bys xs) ∧ ∀ x ∈ xs, x < 256
def PInts (A : SP) (cs : List Value) (xs : List Int) : Prop := ∃ a cap, cs = [.slice a xs.length cap] ∧ xs.length ≤ cap ∧ xs.length ≤ 17592186043904 ∧ Rs A a (ints xs) ∧ ∀ x ∈ xs, -9223372036854775808 ≤ x ∧ x ≤ 9223372036854775807
theorem i64_wf {x : Int} (h : (Lit.int .i64 x).wf = true) : -9223372036854775808 ≤ x ∧ x ≤ 9223372036854775807 := Go.bounds_i64 h
end Go.Vl

set_option linter.unusedVariables false
set_option linter.unusedSimpArgs false
namespace Go.Vl
open Go Go.Proofs
abbrev ub {H : Type} (d : DataW H) : Nat := Go.Proofs.Ytnkeepjpkdjcdaa.Rows.uptoBulk d
abbrev ubs {H : Type} (l : List (DataW H)) : Nat := Go.Proofs.Ytnkeepjpkdjcdaa.Rows.uptoBulkAll l
/-- Whatever lies there as a value of type t, by the argument's own reading, r holds of, and of how much. -/
def Rdu {α : Type} (P : Program) (W : World) (t : TypeId) (r : List Value → α → Prop) (sz : α → Nat) : Prop :=
  ∀ (H : Type) (enc : TypeId × Value → H) (spare : Nat → Bool) (held : Bool) (fuel : Nat) (cs : List Value) (d : DataW H) (pl : List MemPlace),
    DataW.trod enc P W 0 spare held fuel t cs = some (d, pl) → ∃ x, r cs x ∧ sz x ≤ ub d
theorem Rdu.mono {α β : Type} {P : Program} {W : World} {t : TypeId} {r : List Value → α → Prop} {s : α → Nat} {q : List Value → β → Prop} {z : β → Nat} (h : Rdu P W t r s) (k : ∀ cs x, r cs x → ∃ y, q cs y ∧ z y ≤ s x) : Rdu P W t q z :=
  fun H enc sp hd fu cs d pl h1 => by
    obtain ⟨x, hx, hs⟩ := h H enc sp hd fu cs d pl h1
    obtain ⟨y, hy, hz⟩ := k cs x hx
    exact ⟨y, hy, by omega⟩
/-- A slice: its elements' cells, and what each is. -/
def PSu {α : Type} (A : SP) (k : Nat) (r : List Value → α → Prop) (cs : List Value) (xs : List α) : Prop :=
  ∃ (a : Option Addr) (cap : Nat) (Cs : List (List Value)), cs = [.slice a xs.length cap] ∧ xs.length ≤ cap ∧ Cs.length = xs.length ∧ (∀ i (h : i < xs.length) (h' : i < Cs.length), Cs[i].length = k ∧ r Cs[i] xs[i]) ∧ Rs A a Cs.flatten
def szL {α : Type} (sz : α → Nat) (xs : List α) : Nat := (xs.map sz).sum + 1
/-- Bytes. -/
def PByU (A : SP) (cs : List Value) (xs : List Nat) : Prop := ∃ a cap, cs = [.slice a xs.length cap] ∧ xs.length ≤ cap ∧ Rs A a (bys xs) ∧ ∀ x ∈ xs, x < 256
def PInU (A : SP) (cs : List Value) (xs : List Int) : Prop := ∃ a cap, cs = [.slice a xs.length cap] ∧ xs.length ≤ cap ∧ Rs A a (ints xs) ∧ ∀ x ∈ xs, -9223372036854775808 ≤ x ∧ x ≤ 9223372036854775807
end Go.Vl

set_option linter.unusedVariables false
set_option linter.unusedSimpArgs false
namespace Go.Vl
open Go Go.Proofs
theorem Setw {A : SP} {a : Option Addr} {c n : Nat} {l : List Mk} {X : List Mk} {er : Int} {m : Mk} (hX : setS l m = (X, er)) (hr : Rs A a (mcs l) := by repeat (first | with_reducible exact rs_sl | assumption | apply Rs.left)) (hm : l.length = n := by first | assumption | rfl)  (hs : n ≤ 5864062014800 := by omega) : Fn Try.prog 21 #[.slice a n c, .agg m.cells.toArray] A (fun r B => ∃ a2 c2, r = .tuple #[.slice a2 X.length c2, .int .i64 er] ∧ X.length ≤ c2 ∧ B = A * Sl 3 (.slice a2 X.length c2) X.length (mcs X)) := by
  have h := Set_c (A := A) (a := a) (c := c) (l := l) (m := m) hr hm hs
  rw [hX] at h
  exact h
theorem rSetw {A : SP} {a : Option Addr} {c n : Nat} {l : List Mk} {X : List Mk} {er : Int} {m : Mk} (hX : setS l m = (X, er)) (hr : Rs A a (mcs l) := by repeat (first | with_reducible exact rs_sl | assumption | apply Rs.left)) (hm : l.length = n := by first | assumption | rfl)  (hs : n ≤ 5864062014800 := by omega) : Fn Try.prog 22 #[.slice a n c, .agg m.cells.toArray] A (fun r B => ∃ a2 c2, r = .tuple #[.slice a2 X.length c2, .int .i64 er] ∧ X.length ≤ c2 ∧ B = A * Sl 3 (.slice a2 X.length c2) X.length (mcs X)) := by
  have h := rSet_c (A := A) (a := a) (c := c) (l := l) (m := m) hr hm hs
  rw [hX] at h
  exact h
theorem Unsetw {A : SP} {a : Option Addr} {c n : Nat} {l : List Mk} {X : List Mk} {er : Int} {id : Nat} (hX : unsetS l id = (X, er)) (hr : Rs A a (mcs l) := by repeat (first | with_reducible exact rs_sl | assumption | apply Rs.left)) (hm : l.length = n := by first | assumption | rfl)  (hs : n ≤ 5864062014800 := by omega) : Fn Try.prog 23 #[.slice a n c, .int .u32 (id : Nat)] A (fun r B => ∃ a2 c2, r = .tuple #[.slice a2 X.length c2, .int .i64 er] ∧ X.length ≤ c2 ∧ B = A * Sl 3 (.slice a2 X.length c2) X.length (mcs X)) := by
  have h := Unset_c (A := A) (a := a) (c := c) (l := l) (id := id) hr hm hs
  rw [hX] at h
  exact h
theorem rUnsetw {A : SP} {a : Option Addr} {c n : Nat} {l : List Mk} {X : List Mk} {er : Int} {id : Nat} (hX : unsetS l id = (X, er)) (hr : Rs A a (mcs l) := by repeat (first | with_reducible exact rs_sl | assumption | apply Rs.left)) (hm : l.length = n := by first | assumption | rfl)  (hs : n ≤ 5864062014800 := by omega) : Fn Try.prog 24 #[.slice a n c, .int .u32 (id : Nat)] A (fun r B => ∃ a2 c2, r = .tuple #[.slice a2 X.length c2, .int .i64 er] ∧ X.length ≤ c2 ∧ B = A * Sl 3 (.slice a2 X.length c2) X.length (mcs X)) := by
  have h := rUnset_c (A := A) (a := a) (c := c) (l := l) (id := id) hr hm hs
  rw [hX] at h
  exact h
theorem Shiftw {A : SP} {a : Option Addr} {c n : Nat} {l : List Mk} {X : List Mk} {er : Int} {e : Ed} (hX : shiftS l e = (X, er)) (hr : Rs A a (mcs l) := by repeat (first | with_reducible exact rs_sl | assumption | apply Rs.left)) (hm : l.length = n := by first | assumption | rfl) (hW : ∀ x ∈ l, MkW x := by assumption) (hE : EdW e := by assumption) (hs : n ≤ 5864062014800 := by omega) : Fn Try.prog 12 #[.slice a n c, .agg e.cells.toArray] A (fun r B => ∃ a2 c2, r = .tuple #[.slice a2 X.length c2, .int .i64 er] ∧ X.length ≤ c2 ∧ B = A * Sl 3 (.slice a2 X.length c2) X.length (mcs X)) := by
  have h := Shift_c (A := A) (a := a) (c := c) (l := l) (e := e) hr hm hW hE hs
  rw [hX] at h
  exact h
theorem wrap_u32M (a : Nat) : IntKind.u32.wrap (a : Int) = ((a % 4294967296 : Nat) : Int) := by simp [IntKind.wrap, IntKind.bits, IntKind.signed]
def rm40 (i : Nat) : List Mk := (List.range i).map fun j => ⟨99, (j : Nat), 7⟩
theorem rm_succ (i : Nat) : rm40 (i + 1) = rm40 i ++ [⟨99, i, 7⟩] := by unfold rm40; rw [List.range_succ, List.map_append]; rfl
theorem rm_len (i : Nat) : (rm40 i).length = i := by unfold rm40; simp
theorem rm_at {l : List Mk} {n i : Nat} (hl : l.length = n) (h : i < 40) : ∃ h2 : n + i < (l ++ rm40 40).length, (l ++ rm40 40)[n + i] = ⟨99, i, 7⟩ := by
  refine ⟨by rw [List.length_append, rm_len]; omega, ?_⟩
  rw [List.getElem_append_right (by omega)]
  simp [rm40, hl]
theorem rs_room {A : SP} {a : Option Addr} {n : Nat} {l : List Mk} (h : Rs A a (mcs (l ++ rm40 40))) (hm : l.length = n) : Rs A a (mcs l) := by
  have h2 := h.sub (n * 3)
  rwa [mcs_take, List.take_left' hm] at h2
attribute [local irreducible] Sl pt ro SlB
set_option maxRecDepth 20000 in
set_option maxHeartbeats 2000000 in
theorem spare_c {A : SP} {a : Option Addr} {c n : Nat} {l : List Mk} (hr : Rs A a (mcs l) := by repeat (first | assumption | with_reducible exact rs_sl | with_reducible exact rs_pt0 | exact rs_none | apply Rs.left)) (hm : l.length = n := by first | assumption | rfl) (hs : n ≤ 5864062014700 := by omega) :
    Fn Try.prog 11 #[.slice a n c] (A) (fun r B => ∃ a2 c2, r = .slice a2 n c2 ∧ n + 40 ≤ c2 ∧ B = A * Sl 3 (.slice a2 (n + 40) c2) (n + 40) (mcs (l ++ rm40 40))) := by
  refine fn_enterW (args := [.slice a n c]) Try.func11 rfl Try.ntmps11 (by simp) ?_; refine sr ?_; refine tla ?_; refine nq ?_; refine sr ?_; refine tla ?_; refine nq ?_; refine sr ?_; refine tlm ?_; refine tlm ?_; refine tl_x rfl (o_apN Try.underlying22 Try.underlying22 sz35 by35 z35 rfl (by decide) (by decide) rfl rfl (ys := mcs l) hr (by rw [mcs_len, hm]) (mcs_one _) (by omega)) ?_; rintro _ _ ⟨a7, c7, rfl, hc7, rfl⟩; refine tla ?_; refine nq ?_; refine tc_seq ?_; refine sr ?_; refine tla ?_; refine nq ?_; refine tc_block ?_; refine tc_loop (fun kk ρ BB => ∃ (i : Nat) (a3 : Option Addr) (c3 : Nat), (i ≤ 40) ∧ (n + i ≤ c3) ∧ kk = 40 - i ∧ ρ 3 = .slice a3 (n + i) c3 ∧ ρ 4 = .int .i64 (i : Nat) ∧ ρ 0 = .slice a n c ∧ Dr BB (A * Sl 3 (.slice a3 (n + i) c3) (n + i) (mcs (l ++ rm40 i)))) (m := 40 - (0)) ?_ ?_
  · exact ⟨0, a7, c7, by omega, hc7, rfl, rfl, rfl, rfl, by unfold rm40; rw [List.range_zero, List.map_nil, List.append_nil]; repeat (first | with_reducible exact dr_refl | apply dr_keep | apply dr_drop)⟩
  · intro k ρ B hI
    obtain ⟨i, a3, c3, hp0, hp1, hkk1, hE3, hE4, hE0, hBA⟩ := hI
    refine tc_pre hBA.sat ?_
    clear hBA
    refine tc_env (d := 3) hE3 ?_; refine tc_env (d := 4) hE4 ?_; refine tc_env (d := 0) hE0 ?_
    clear hE3 hE4 hE0
    refine tc_seq ?_; refine sr ?_; refine tlm ?_; refine tv (o_lss rfl rfl) ?_; refine nq ?_; refine tc_cond rfl (fun h => ?_) (fun h => ?_)
    · have hi : i < 40 := by first | omega | (simp at h; omega)
      refine tc_skip ?_; refine q_then_n ?_; refine tc_seq ?_; refine tc_block ?_; refine tc_reg ?_; refine tlm ?_; refine tlm ?_; refine tv (o_bS (l := [_, _, _]) (pv_cons (by conv => lhs; whnf) (pv_cons (by conv => lhs; whnf) (pv_cons (by conv => lhs; whnf) pv_nil))) Try.underlying35 z35 (pl35 Try.underlying35) rfl) ?_; refine tl_x rfl (o_buildSliceK (k := 3) (l := (Mk.mk 99 i 7).cells) Try.underlying22 sz35 z35 rfl rfl (by decide)) ?_; rintro _ _ ⟨b15, rfl, rfl⟩; refine tl_x rfl (o_apB Try.underlying22 Try.underlying22 sz35 by35 z35 rfl (by decide) (by decide) rfl rfl rfl (by repeat (first | with_reducible exact ct_here | apply ct_left)) rfl rfl (by omega) (show _ = mcs (l ++ rm40 (i + 1)) by rw [rm_succ, ← List.append_assoc, mcs_append (l ++ rm40 i)]; rfl)) ?_; rintro _ _ ⟨a16, c16, rfl, hc16, rfl⟩; refine tla ?_; refine tl_nil ?_; refine q_block_n (q_then_n ?_); refine tc_reg ?_; refine tlm ?_; refine tv (by first | exact o_addI rfl rfl (by omega) | exact o_add rfl rfl) ?_; refine tla ?_; refine nq ?_; exact ⟨_, by omega, i + 1, _, _, by omega, hc16, rfl, rfl, rfl, rfl, (by repeat (first | with_reducible exact dr_refl | apply dr_keep | apply dr_drop))⟩
    · obtain rfl : i = 40 := by first | omega | (simp at h; omega)
      refine tc_exit ?_; refine q_then_e (q_then_e (q_block_x (q_then_n ?_))); refine sr ?_; refine tlm ?_; refine tlm ?_; refine tv (o_len Try.underlying22 rfl) ?_; refine tv (o_slice (l := 0) (h := n) Try.underlying22 sz35 rfl bnd_none (bnd_nat rfl) (by omega) (by omega)) ?_; refine tl_env (d := 20) (v := .slice a3 n c3) (by show Value.slice (cutAddr _ _ 0 3) (n - 0) (c3 - 0) = _; rw [show cutAddr a3 c3 0 3 = a3 by unfold cutAddr; cases a3 <;> simp [Addr.add]]; rfl) ?_; refine tla ?_; refine nq ?_; refine tc_ret ?_; exact ⟨.slice a3 n c3, _, res1 rfl rfl, fun _ _ h => h, a3, c3, rfl, hp1, rfl⟩
set_option maxRecDepth 20000 in
set_option maxHeartbeats 2000000 in
theorem kept_c {A : SP} {a b : Option Addr} {c d n : Nat} {l : List Mk} (hr : Rs A a (mcs (l ++ rm40 40)) := by repeat (first | assumption | with_reducible exact rs_sl | with_reducible exact rs_pt0 | exact rs_none | apply Rs.left)) (hr2 : Rs A b (mcs l) := by repeat (first | assumption | with_reducible exact rs_sl | with_reducible exact rs_pt0 | exact rs_none | apply Rs.left)) (hm : l.length = n := by first | assumption | rfl) (hc : n + 40 ≤ c := by omega) (hs : n ≤ 5864062014800 := by omega) :
    Fn Try.prog 29 #[.slice a n c, .slice b n d] (A) (fun r B => r = .bool true ∧ A = B) := by
  refine fn_enterW (args := [.slice a n c, .slice b n d]) Try.func29 rfl Try.ntmps29 (by simp) ?_; refine sr ?_; refine tla ?_; refine nq ?_; refine sr ?_; refine tlm ?_; refine tlm ?_; refine tv (o_len Try.underlying22 rfl) ?_; refine tv (by first | exact o_addI rfl rfl (by omega) | exact o_add rfl rfl) ?_; refine tl_env (d := 10) (v := .int .i64 ((n + 40 : Nat) : Int)) (rfl) ?_; refine tv (o_slice (l := 0) (h := n + 40) Try.underlying22 sz35 rfl bnd_none (bnd_nat rfl) (by omega) (by omega)) ?_; refine tl_env (d := 11) (v := .slice a (n + 40) c) (by show Value.slice (cutAddr _ _ 0 3) (n + 40 - 0) (c - 0) = _; rw [show cutAddr a c 0 3 = a by unfold cutAddr; cases a <;> simp [Addr.add]]; rfl) ?_; refine tla ?_; refine nq ?_; refine tc_seq ?_; refine sr ?_; refine tla ?_; refine nq ?_; refine tc_block ?_; refine tc_loop (fun kk ρ BB => ∃ (i : Nat), (i ≤ 40) ∧ kk = 40 - i ∧ ρ 6 = .int .i64 (i : Nat) ∧ ρ 0 = .slice a n c ∧ ρ 1 = .slice b n d ∧ ρ 5 = .slice a (n + 40) c ∧ BB = A) (m := 40 - (0)) ?_ ?_
  · exact ⟨0, by omega, rfl, rfl, rfl, rfl, rfl, rfl⟩
  · intro k ρ B hI
    obtain ⟨i, hp0, hkk1, hE6, hE0, hE1, hE5, hBA⟩ := hI
    obtain rfl := hBA.symm
    refine tc_env (d := 6) hE6 ?_; refine tc_env (d := 0) hE0 ?_; refine tc_env (d := 1) hE1 ?_; refine tc_env (d := 5) hE5 ?_
    clear hE6 hE0 hE1 hE5
    refine tc_seq ?_; refine sr ?_; refine tlm ?_; refine tv (o_lss rfl rfl) ?_; refine nq ?_; refine tc_cond rfl (fun h => ?_) (fun h => ?_)
    · have hi : i < 40 := by first | omega | (simp at h; omega)
      obtain ⟨hi2, hx⟩ := rm_at (l := l) hm hi
      refine tc_skip ?_; refine q_then_n ?_; refine tc_seq ?_; refine tc_block ?_; refine sr ?_; refine tlm ?_; refine tlm ?_; refine tv (o_len Try.underlying22 rfl) ?_; refine tlm ?_; refine tv (by first | exact o_addI rfl rfl (by omega) | exact o_add rfl rfl) ?_; refine tl_env (d := 20) (v := .int .i64 ((n + i : Nat) : Int)) (rfl) ?_; refine tv (o_ixP Try.underlying22 sz35 rfl rfl (by omega) (nn_rs hr (fun _ => by rw [mcs_len]; omega))) ?_; refine tv (o_ldPN (vs := ((Mk.mk 99 i 7)).cells) a35 sz35 rfl (by repeat (first | exact hr | apply Rs.left)) (by rw [mcs_at (by omega), hx]) rfl (by decide)) ?_; refine tlm ?_; refine tv (o_bS (l := [_, _, _]) (pv_cons (by conv => lhs; whnf) (pv_cons (by conv => lhs; whnf) (pv_cons (by conv => lhs; whnf) pv_nil))) Try.underlying35 z35 (pl35 Try.underlying35) rfl) ?_; refine tv (o_neMk (a := Mk.mk 99 i 7) (b := Mk.mk 99 i 7) rfl rfl) ?_; refine nq ?_; refine tc_cond rfl (fun h => ?_) (fun h => ?_)
      · exfalso; simp at h
      · try simp only [lv1, lv2, lv3, lv4, lv5, lv6, Bool.not_true, Bool.not_false] at h
        refine tc_skip ?_; refine q_block_n (q_then_n ?_); refine tc_reg ?_; refine tlm ?_; refine tv (by first | exact o_addI rfl rfl (by omega) | exact o_add rfl rfl) ?_; refine tla ?_; refine nq ?_; exact ⟨_, by omega, i + 1, by omega, rfl, rfl, rfl, rfl, rfl, rfl⟩
    · obtain rfl : i = 40 := by first | omega | (simp at h; omega)
      refine tc_exit ?_; refine q_then_e (q_then_e (q_block_x (q_then_n ?_))); refine sr ?_; refine tlm ?_; refine tlm ?_; refine tl_c rfl (o_call bd39 rfl (rSame_c (l := l) (r2 := l) (hr := rs_room hr hm))) ?_; rintro _ _ ⟨rfl, rfl⟩; refine tl_env (d := 28) (v := .bool true) (by show Value.bool (decide _) = _; rw [decide_eq_true rfl]) ?_; refine tla ?_; refine nq ?_; refine tc_ret ?_; refine ⟨.bool true, _, res1 rfl rfl, ?_, rfl, rfl⟩; exact Dr.sat (by repeat (first | with_reducible exact dr_refl | apply dr_keep | apply dr_drop))
theorem setW1 : setS [⟨3, 3, 1⟩] ⟨2, 3, 0⟩ = ([⟨2, 3, 0⟩, ⟨3, 3, 1⟩], 0) := by
  simp [setS, mayS, okM, outM, srt, mg_cons, mg_nil_l, mg_nil_r, ltc, cId]
theorem shiftW1 : shiftS [⟨2, 3, 0⟩, ⟨3, 3, 1⟩] ⟨3, 0, 2⟩ = ([⟨2, 3, 0⟩, ⟨3, 5, 1⟩], 0) := by
  simp [shiftS, mayS, okM, edMay, gnM, goneS, mvM, srt, mg_cons, mg_nil_l, mg_nil_r, ltc, cId]
theorem mayW1 : mayS [⟨2, 3, 0⟩, ⟨3, 5, 1⟩] = 0 := by simp [mayS, okM]
theorem checkW1 : checkS [⟨2, 3, 0⟩, ⟨3, 5, 1⟩] 5 = 0 := by simp [checkS, mayS, okM]
theorem checkW2 : checkS [⟨2, 3, 0⟩, ⟨3, 5, 1⟩] 4 = 190 := by simp [checkS, mayS, okM]
theorem packW1 : (packS [⟨2, 3, 0⟩, ⟨3, 5, 1⟩]).2 = 0 := by unfold packS; rw [mayW1]; rfl
theorem packW2 : (packS [⟨2, 3, 0⟩, ⟨3, 5, 1⟩]).1.size = 32 := by
  unfold packS; rw [mayW1, if_neg (by decide)]
  show (sob _).size = 32
  simp [sob, ByteArray.size, pkS_len, srt_length cId_swo]
set_option maxRecDepth 20000 in
set_option maxHeartbeats 2000000 in
theorem twice_f (F : SP) {aa ab aw ai al : Option Addr} {ca cb cw ci c n m : Nat} {l X : List Mk} (hb : Rs F ab (mcs X)) (hw : Rs F aw (mcs X)) (hi_ : Rs F ai (mcs (l ++ rm40 40))) (hl : Rs F al (mcs l)) (hm : l.length = n) (hX : X.length = m) (hc : n + 40 ≤ ci) (hn : n ≤ 5864062014640) (hmn : m ≤ 5864062014641) :
    Fn Try.prog 14 #[.slice aa m ca, .slice ab m cb, .slice aw m cw, .slice ai n ci, .slice al n c] (F * Sl 3 (.slice aa (m) ca) (m) (mcs (X))) (fun r B => r = .bool true ∧ B = F) := by
  refine fn_enterW (args := [.slice aa m ca, .slice ab m cb, .slice aw m cw, .slice ai n ci, .slice al n c]) Try.func14 rfl Try.ntmps14 (by simp) ?_; refine sr ?_; refine tla ?_; refine nq ?_; refine tc_seq ?_; refine sr ?_; refine tlm ?_; refine tlm ?_; refine tl_c rfl (o_call bd39 rfl (rSame_c (l := X) (r2 := X) (hr := rs_sl))) ?_; rintro _ _ ⟨rfl, rfl⟩; refine tl_env (d := 16) (v := .bool true) (by show Value.bool (decide _) = _; rw [decide_eq_true rfl]) ?_; refine tv (o_not rfl) ?_; refine tlm ?_; refine tl_bool (d := 18) rfl (fun h => ?_) (fun h => ?_)
  · exfalso; simp at h
  · try simp only [lv1, lv2, lv3, lv4, lv5, lv6, Bool.not_true, Bool.not_false] at h
    refine tlm ?_; refine tlm ?_; refine tl_c rfl (o_call bd39 rfl (rSame_c (l := X) (r2 := X))) ?_; rintro _ _ ⟨rfl, rfl⟩; refine tl_env (d := 21) (v := .bool true) (by show Value.bool (decide _) = _; rw [decide_eq_true rfl]) ?_; refine tv (o_not rfl) ?_; refine tv (o_pick_f rfl (by conv => lhs; whnf)) ?_; refine tlm ?_; refine tl_bool (d := 24) rfl (fun h => ?_) (fun h => ?_)
    · exfalso; simp at h
    · try simp only [lv1, lv2, lv3, lv4, lv5, lv6, Bool.not_true, Bool.not_false] at h
      refine tlm ?_; refine tlm ?_; refine tl_c rfl (o_call bd29 rfl (kept_c (l := l))) ?_; rintro _ _ ⟨rfl, rfl⟩; refine tv (o_not rfl) ?_; refine tv (o_pick_f rfl (by conv => lhs; whnf)) ?_; refine nq ?_; refine tc_cond rfl (fun h => ?_) (fun h => ?_)
      · exfalso; simp at h
      · try simp only [lv1, lv2, lv3, lv4, lv5, lv6, Bool.not_true, Bool.not_false] at h
        refine tc_skip ?_; refine q_then_n ?_; refine tc_seq ?_; refine sr ?_; refine tla ?_; refine nq ?_; refine tc_block ?_; refine tc_loop (fun kk ρ BB => ∃ (i : Nat) (X1 : List Mk), (i ≤ m) ∧ (X1.length = m) ∧ kk = m - i ∧ ρ 11 = .int .i64 (i : Nat) ∧ ρ 0 = .slice aa m ca ∧ ρ 1 = .slice ab m cb ∧ ρ 2 = .slice aw m cw ∧ ρ 3 = .slice ai n ci ∧ ρ 4 = .slice al n c ∧ BB = F * Sl 3 (.slice aa (m) ca) (m) (mcs (X1))) (m := m - (0)) ?_ ?_
        · exact ⟨0, X, by omega, hX, rfl, rfl, rfl, rfl, rfl, rfl, rfl, rfl⟩
        · intro k ρ B hI
          obtain ⟨i, X1, hp0, hp1, hkk1, hE11, hE0, hE1, hE2, hE3, hE4, rfl⟩ := hI
          refine tc_env (d := 11) hE11 ?_; refine tc_env (d := 0) hE0 ?_; refine tc_env (d := 1) hE1 ?_; refine tc_env (d := 2) hE2 ?_; refine tc_env (d := 3) hE3 ?_; refine tc_env (d := 4) hE4 ?_
          clear hE11 hE0 hE1 hE2 hE3 hE4
          refine tc_seq ?_; refine sr ?_; refine tlm ?_; refine tlm ?_; refine tv (o_len Try.underlying22 rfl) ?_; refine tv (o_lss rfl rfl) ?_; refine nq ?_; refine tc_cond rfl (fun h => ?_) (fun h => ?_)
          · have hi : i < X1.length := by first | omega | (simp at h; omega)
            refine tc_skip ?_; refine q_then_n ?_; refine tc_seq ?_; refine tc_block ?_; refine tc_reg ?_; refine tlm ?_; refine tlm ?_; refine tlm ?_; refine tv (by first | exact o_conv32 Try.underlying3 Try.underlying33 rfl | exact o_conv Try.underlying3 Try.underlying33 rfl) ?_; refine tl_env (d := 39) (v := .int .u32 ((i % 4294967296 : Nat) : Int)) (by show Value.int .u32 (IntKind.u32.wrap (i : Int)) = _; rw [wrap_u32M]) ?_; refine tv (o_add rfl rfl) ?_; refine tl_env (d := 40) (v := .int .u32 (((1000 + i % 4294967296) % 4294967296 : Nat) : Int)) (by show Value.int .u32 (IntKind.u32.wrap (1000 + ((i % 4294967296 : Nat) : Int))) = _; rw [show (1000 : Int) + ((i % 4294967296 : Nat) : Int) = ((1000 + i % 4294967296 : Nat) : Int) by omega, wrap_u32M]) ?_; refine tv (o_bS (l := [_, _, _]) (pv_cons (by conv => lhs; whnf) (pv_cons (by conv => lhs; whnf) pv_nil)) Try.underlying35 z35 (pl35 Try.underlying35) rfl) ?_; refine tv (o_ixP Try.underlying22 sz35 rfl rfl (by omega) (by repeat (first | exact nn_sl (by decide) | apply Nn.left))) ?_; refine tl_u rfl (o_stPN (vs := (Mk.mk ((1000 + i % 4294967296) % 4294967296) (-5) 0).cells) (ys := mcs (X1.set i ⟨(1000 + i % 4294967296) % 4294967296, -5, 0⟩)) sz35 rfl rfl rfl rfl (by decide) (by repeat (first | with_reducible exact ct_here | apply ct_left)) (by omega) (mcs_spl (by omega))) ?_
            refine tl_nil ?_; refine q_block_n (q_then_n ?_); refine tc_reg ?_; refine tlm ?_; refine tv (by first | exact o_addI rfl rfl (by omega) | exact o_add rfl rfl) ?_; refine tla ?_; refine nq ?_; exact ⟨_, by omega, i + 1, _, by omega, by rw [List.length_set]; exact hp1, rfl, rfl, rfl, rfl, rfl, rfl, rfl, rfl⟩
          · try simp only [lv1, lv2, lv3, lv4, lv5, lv6, Bool.not_true, Bool.not_false] at h
            refine tc_exit ?_; refine q_then_e (q_then_e (q_block_x (q_then_n ?_))); refine sr ?_; refine tlm ?_; refine tla ?_; refine nq ?_; refine tc_seq ?_; refine sr ?_; refine tla ?_; refine nq ?_; refine tc_block ?_; refine tc_loop (fun kk ρ BB => ∃ (j : Nat) (ag : Option Addr) (cg : Nat) (Y : List Mk), (j ≤ 40) ∧ kk = 40 - j ∧ ρ 12 = .slice ag (m + j) cg ∧ ρ 13 = .int .i64 (j : Nat) ∧ ρ 1 = .slice ab m cb ∧ ρ 2 = .slice aw m cw ∧ ρ 3 = .slice ai n ci ∧ ρ 4 = .slice al n c ∧ Dr BB (F * Sl 3 (.slice ag (m + j) cg) (m + j) (mcs (Y)))) (m := 40 - (0)) ?_ ?_
            · exact ⟨0, aa, ca, X1, by omega, rfl, rfl, rfl, rfl, rfl, rfl, rfl, (by repeat (first | with_reducible exact dr_refl | apply dr_keep | apply dr_drop))⟩
            · intro k ρ B hI
              obtain ⟨j, ag, cg, Y, hq0, hkk2, hE12, hE13, hE1, hE2, hE3, hE4, hBA⟩ := hI
              refine tc_pre hBA.sat ?_
              clear hBA
              refine tc_env (d := 12) hE12 ?_; refine tc_env (d := 13) hE13 ?_; refine tc_env (d := 1) hE1 ?_; refine tc_env (d := 2) hE2 ?_; refine tc_env (d := 3) hE3 ?_; refine tc_env (d := 4) hE4 ?_
              clear hE12 hE13 hE1 hE2 hE3 hE4
              refine tc_seq ?_; refine sr ?_; refine tlm ?_; refine tv (o_lss rfl rfl) ?_; refine nq ?_; refine tc_cond rfl (fun h => ?_) (fun h => ?_)
              · have hj : j < 40 := by first | omega | (simp at h; omega)
                refine tc_skip ?_; refine q_then_n ?_; refine tc_seq ?_; refine tc_block ?_; refine tc_reg ?_; refine tlm ?_; refine tv (o_bS (l := [_, _, _]) (pv_cons (by conv => lhs; whnf) pv_nil) Try.underlying35 z35 (pl35 Try.underlying35) rfl) ?_; refine tl_x rfl (o_buildSliceK (k := 3) (l := (Mk.mk 7 0 0).cells) Try.underlying22 sz35 z35 rfl rfl (by decide)) ?_; rintro _ _ ⟨b50, rfl, rfl⟩; refine tl_x rfl (o_apB Try.underlying22 Try.underlying22 sz35 by35 z35 rfl (by decide) (by decide) rfl rfl rfl (by repeat (first | with_reducible exact ct_here | apply ct_left)) rfl rfl (by omega) (show _ = mcs (Y ++ [⟨7, 0, 0⟩]) by rw [mcs_append]; rfl)) ?_; rintro _ _ ⟨a51, c51, rfl, hc51, rfl⟩; refine tla ?_; refine tl_nil ?_; refine q_block_n (q_then_n ?_); refine tc_reg ?_; refine tlm ?_; refine tv (by first | exact o_addI rfl rfl (by omega) | exact o_add rfl rfl) ?_; refine tla ?_; refine nq ?_; exact ⟨_, by omega, j + 1, _, _, _, by omega, rfl, rfl, rfl, rfl, rfl, rfl, rfl, (by repeat (first | with_reducible exact dr_refl | apply dr_keep | apply dr_drop))⟩
              · try simp only [lv1, lv2, lv3, lv4, lv5, lv6, Bool.not_true, Bool.not_false] at h
                refine tc_exit ?_; refine q_then_e (q_then_e (q_block_x (q_then_n ?_))); refine sr ?_; refine tlm ?_; refine tlm ?_; refine tl_c rfl (o_call bd39 rfl (rSame_c (l := X) (r2 := X))) ?_; rintro _ _ ⟨rfl, rfl⟩; refine tl_env (d := 54) (v := .bool true) (by show Value.bool (decide _) = _; rw [decide_eq_true rfl]) ?_; refine tlm ?_; refine tl_bool (d := 55) rfl (fun h => ?_) (fun h => ?_)
                · try simp only [lv1, lv2, lv3, lv4, lv5, lv6, Bool.not_true, Bool.not_false] at h
                  refine tlm ?_; refine tlm ?_; refine tl_c rfl (o_call bd29 rfl (kept_c (l := l))) ?_; rintro _ _ ⟨rfl, rfl⟩; refine tv (o_pick_t rfl (by conv => lhs; whnf)) ?_; refine tla ?_; refine nq ?_; refine tc_ret ?_; exact ⟨.bool true, F, res1 rfl rfl, Dr.sat (by repeat (first | with_reducible exact dr_refl | apply dr_keep | apply dr_drop)), rfl, rfl⟩
                · exfalso; simp at h
set_option maxRecDepth 20000 in
set_option maxHeartbeats 2000000 in
theorem worksM_c {A : SP} :
    Fn Try.prog 15 #[] (A) (fun r B => r = .bool true ∧ A = B) := by
  refine fn_enterW (args := []) Try.func15 rfl Try.ntmps15 (by simp) ?_; refine sr ?_; refine tla ?_; refine nq ?_; refine sr ?_; refine tv (o_bS (l := [_, _, _]) (pv_cons (by conv => lhs; whnf) (pv_cons (by conv => lhs; whnf) (pv_cons (by conv => lhs; whnf) pv_nil))) Try.underlying35 z35 (pl35 Try.underlying35) rfl) ?_; refine tl_x rfl (o_buildSliceK (k := 3) (l := (Mk.mk 3 3 1).cells) Try.underlying22 sz35 z35 rfl rfl (by decide)) ?_; rintro _ _ ⟨b9, rfl, rfl⟩; refine tv (o_bS (l := [_, _, _]) (pv_cons (by conv => lhs; whnf) (pv_cons (by conv => lhs; whnf) pv_nil)) Try.underlying35 z35 (pl35 Try.underlying35) rfl) ?_; refine tl_c rfl (o_call bd21 rfl (Setw (l := [⟨3, 3, 1⟩]) (m := ⟨2, 3, 0⟩) (n := 1) setW1 (hr := (show Rs _ _ (Mk.mk 3 3 1).cells from rs_pt rfl)))) ?_; rintro _ _ ⟨a11, c11, rfl, hc11, rfl⟩; refine tlm ?_; refine tv (o_extract rfl rfl) ?_; refine tv (o_extract rfl rfl) ?_; refine tla ?_; refine tla ?_; refine nq ?_; refine sr ?_; refine tlm ?_; refine tv (o_bS (l := [_, _, _]) (pv_cons (by conv => lhs; whnf) (pv_cons (by conv => lhs; whnf) pv_nil)) Try.underlying24 z24 (pl24 Try.underlying24) rfl) ?_; refine tl_c rfl (o_call bd12 rfl (Shiftw (l := [⟨2, 3, 0⟩, ⟨3, 3, 1⟩]) (e := ⟨3, 0, 2⟩) (n := 2) shiftW1 (hW := by intro x hx; simp at hx; rcases hx with rfl | rfl <;> exact ⟨by decide, by decide, by decide⟩) (hE := ⟨by decide, by decide, by decide⟩))) ?_
  rintro _ _ ⟨a17, c17, rfl, hc17, rfl⟩; refine tlm ?_; refine tv (o_extract rfl rfl) ?_; refine tv (o_extract rfl rfl) ?_; refine tla ?_; refine tla ?_; refine nq ?_; refine sr ?_; refine tlm ?_; refine tl_c rfl (o_call bd27 rfl (Pack_c (l := [⟨2, 3, 0⟩, ⟨3, 5, 1⟩]) (n := 2) (hW := by intro x hx; simp at hx; rcases hx with rfl | rfl <;> exact ⟨by decide, by decide, by decide⟩))) ?_; rintro _ _ ⟨rfl, rfl⟩; refine tlm ?_; refine tv (o_extract rfl rfl) ?_; refine tv (o_extract rfl rfl) ?_; refine tl_env (d := 24) (v := .int .i64 0) (by show Value.int .i64 _ = _; rw [packW1]) ?_; refine tla ?_; refine tla ?_; refine nq ?_; refine sr ?_; refine tlm ?_; refine tv (o_eqi rfl rfl) ?_; refine tlm ?_; refine tl_bool (d := 27) rfl (fun h => ?_) (fun h => ?_)
  · try simp only [lv1, lv2, lv3, lv4, lv5, lv6, Bool.not_true, Bool.not_false] at h
    refine tlm ?_; refine tv (o_eqi rfl rfl) ?_; refine tv (o_pick_t rfl (by conv => lhs; whnf)) ?_; refine tlm ?_; refine tl_bool (d := 31) rfl (fun h => ?_) (fun h => ?_)
    · try simp only [lv1, lv2, lv3, lv4, lv5, lv6, Bool.not_true, Bool.not_false] at h
      refine tlm ?_; refine tv (o_eqi rfl rfl) ?_; refine tv (o_pick_t rfl (by conv => lhs; whnf)) ?_; refine tlm ?_; refine tl_bool (d := 35) rfl (fun h => ?_) (fun h => ?_)
      · try simp only [lv1, lv2, lv3, lv4, lv5, lv6, Bool.not_true, Bool.not_false] at h
        refine tlm ?_; refine tv (o_len Try.underlying22 rfl) ?_; refine tv (o_eqi rfl rfl) ?_; refine tv (o_pick_t rfl (by conv => lhs; whnf)) ?_; refine tlm ?_; refine tl_bool (d := 40) rfl (fun h => ?_) (fun h => ?_)
        · try simp only [lv1, lv2, lv3, lv4, lv5, lv6, Bool.not_true, Bool.not_false] at h
          refine tlm ?_; refine tv (o_ixP Try.underlying22 sz35 rfl rfl (by decide) (by repeat (first | exact nn_sl (by decide) | apply Nn.left))) ?_; refine tv (o_ldPN (vs := (Mk.mk 2 3 0).cells) a35 sz35 rfl (by repeat (first | with_reducible exact rs_sl | apply Rs.left)) rfl rfl (by decide)) ?_; refine tv (o_bS (l := [_, _, _]) (pv_cons (by conv => lhs; whnf) (pv_cons (by conv => lhs; whnf) pv_nil)) Try.underlying35 z35 (pl35 Try.underlying35) rfl) ?_; refine tv (o_eqMk (a := ⟨2, 3, 0⟩) (b := ⟨2, 3, 0⟩) rfl rfl) ?_; refine tv (o_pick_t rfl (by conv => lhs; whnf)) ?_; refine tlm ?_; refine tl_bool (d := 47) rfl (fun h => ?_) (fun h => ?_)
          · try simp only [lv1, lv2, lv3, lv4, lv5, lv6, Bool.not_true, Bool.not_false] at h
            refine tlm ?_; refine tv (o_ixP Try.underlying22 sz35 rfl rfl (by decide) (by repeat (first | exact nn_sl (by decide) | apply Nn.left))) ?_; refine tv (o_ldPN (vs := (Mk.mk 3 5 1).cells) a35 sz35 rfl (by repeat (first | with_reducible exact rs_sl | apply Rs.left)) rfl rfl (by decide)) ?_; refine tv (o_bS (l := [_, _, _]) (pv_cons (by conv => lhs; whnf) (pv_cons (by conv => lhs; whnf) (pv_cons (by conv => lhs; whnf) pv_nil))) Try.underlying35 z35 (pl35 Try.underlying35) rfl) ?_; refine tv (o_eqMk (a := ⟨3, 5, 1⟩) (b := ⟨3, 5, 1⟩) rfl rfl) ?_; refine tv (o_pick_t rfl (by conv => lhs; whnf)) ?_; refine tlm ?_; refine tl_bool (d := 54) rfl (fun h => ?_) (fun h => ?_)
            · try simp only [lv1, lv2, lv3, lv4, lv5, lv6, Bool.not_true, Bool.not_false] at h
              refine tlm ?_; refine tv (o_lenS Try.underlying9 rfl) ?_; refine tl_env (d := 56) (v := .int .i64 ((32 : Nat) : Int)) (by show Value.int .i64 ((ByteArray.size _ : Nat) : Int) = _; rw [packW2]) ?_; refine tv (o_eqi rfl rfl) ?_; refine tv (o_pick_t rfl (by conv => lhs; whnf)) ?_; refine tlm ?_; refine tl_bool (d := 59) rfl (fun h => ?_) (fun h => ?_)
              · try simp only [lv1, lv2, lv3, lv4, lv5, lv6, Bool.not_true, Bool.not_false] at h
                refine tlm ?_; refine tl_c rfl (o_call bd18 rfl (Check_c (l := [⟨2, 3, 0⟩, ⟨3, 5, 1⟩]) (n := 2) (z := 5))) ?_; rintro _ _ ⟨rfl, rfl⟩; refine tl_env (d := 61) (v := .int .i64 0) (by show Value.int .i64 _ = _; rw [checkW1]) ?_; refine tv (o_eqi rfl rfl) ?_; refine tv (o_pick_t rfl (by conv => lhs; whnf)) ?_; refine tlm ?_; refine tl_bool (d := 64) rfl (fun h => ?_) (fun h => ?_)
                · try simp only [lv1, lv2, lv3, lv4, lv5, lv6, Bool.not_true, Bool.not_false] at h
                  refine tlm ?_; refine tl_c rfl (o_call bd18 rfl (Check_c (l := [⟨2, 3, 0⟩, ⟨3, 5, 1⟩]) (n := 2) (z := 4))) ?_; rintro _ _ ⟨rfl, rfl⟩; refine tl_env (d := 66) (v := .int .i64 190) (by show Value.int .i64 _ = _; rw [checkW2]) ?_; refine tv (o_eqi rfl rfl) ?_; refine tv (o_pick_t rfl (by conv => lhs; whnf)) ?_; refine tla ?_; refine nq ?_; refine tc_ret ?_; refine ⟨.bool true, _, res1 rfl rfl, ?_, rfl, rfl⟩; exact Dr.sat (by repeat (first | with_reducible exact dr_refl | apply dr_keep | apply dr_drop))
                · exfalso; simp at h
              · exfalso; simp at h
            · exfalso; simp at h
          · exfalso; simp at h
        · exfalso; simp at h
      · exfalso; simp at h
    · exfalso; simp at h
  · exfalso; simp at h
end Go.Vl

set_option linter.unusedVariables false
set_option linter.unusedSimpArgs false
namespace Go.Vl
open Go Go.Proofs
def PMks (A : SP) (cs : List Value) (l : List Mk) : Prop := ∃ a c, cs = [.slice a l.length c] ∧ l.length ≤ c ∧ Rs A a (mcs l) ∧ ∀ x ∈ l, MkW x
theorem set_le {l X : List Mk} {m : Mk} {er : Int} (h : setS l m = (X, er)) : X.length ≤ l.length + 1 := by
  have h1 : (setS l m).1.length ≤ l.length + 1 := by
    have h2 : (outM m.id l).length ≤ l.length := List.length_filter_le _ _
    unfold setS
    repeat' split
    all_goals simp [srt_length cId_swo]
    all_goals omega
  rw [h] at h1; exact h1
theorem unset_le {l X : List Mk} {i : Nat} {er : Int} (h : unsetS l i = (X, er)) : X.length ≤ l.length := by
  have h1 : (unsetS l i).1.length ≤ l.length := by
    have h2 : (outM i l).length ≤ l.length := List.length_filter_le _ _
    unfold unsetS
    repeat' split
    all_goals simp [srt_length cId_swo]
    all_goals omega
  rw [h] at h1; exact h1
attribute [local irreducible] Sl pt ro SlB
set_option maxRecDepth 20000 in
set_option maxHeartbeats 2000000 in
theorem MarksSets_f (F : SP) {a : Option Addr} {c n : Nat} {l : List Mk} (hr : Rs F a (mcs l)) (hm : l.length = n) (hn : n ≤ 5864062014640) {m : Mk} {z : Int} :
    Fn Try.prog 6 #[.slice a n c, .agg m.cells.toArray, .int .i64 z] (F) (fun r B => r = .bool true ∧ B = F) := by
  refine fn_enterW (args := [.slice a n c, .agg m.cells.toArray, .int .i64 z]) Try.func6 rfl Try.ntmps6 (by simp) ?_
  obtain ⟨X, er, hX⟩ : ∃ X er, setS l m = (X, er) := ⟨_, _, rfl⟩
  have hXl := set_le hX
  obtain ⟨Z, ez, hZ⟩ : ∃ X er, unsetS l m.id = (X, er) := ⟨_, _, rfl⟩
  have hZl := unset_le hZ
  refine sr ?_; refine tl_x rfl (o_box rfl rfl) ?_; rintro _ _ ⟨b4, rfl, rfl⟩; refine tla ?_; refine nq ?_; refine sr ?_; refine tlm ?_; refine tl_c rfl (o_call bd11 rfl (spare_c (l := l))) ?_; rintro _ _ ⟨a15, c15, rfl, hc15, rfl⟩; refine tla ?_; refine nq ?_; refine tc_seq ?_; refine sr ?_; refine tlm ?_; refine tlm ?_; refine tl_c rfl (o_call bd18 rfl (Check_c (l := l) (z := z) (hr := rs_room (by repeat (first | with_reducible exact rs_sl | assumption | apply Rs.left)) hm))) ?_; rintro _ _ ⟨rfl, rfl⟩; refine tlm ?_; refine tlm ?_; refine tl_c rfl (o_call bd20 rfl (rCheck_c (l := l) (z := z))) ?_; rintro _ _ ⟨rfl, rfl⟩; refine tv (o_nei rfl rfl) ?_; refine nq ?_; refine tc_cond rfl (fun h => ?_) (fun h => ?_)
  · exfalso; simp at h
  · try simp only [lv1, lv2, lv3, lv4, lv5, lv6, Bool.not_true, Bool.not_false] at h
    refine tc_skip ?_; refine q_then_n ?_; refine sr ?_; refine tlm ?_; refine tv (o_loadN (vs := (m).cells) a35 sz35 rfl (by repeat (first | with_reducible exact has_here | with_reducible exact has_pt | apply has_left)) (by show 3 ≤ 3; decide) rfl) ?_; refine tl_c rfl (o_call bd21 rfl (Setw (l := l) (m := m) hX (hr := rs_room (by repeat (first | with_reducible exact rs_sl | assumption | apply Rs.left)) hm))) ?_; rintro _ _ ⟨a26, c26, rfl, hc26, rfl⟩; refine tlm ?_; refine tv (o_extract rfl rfl) ?_; refine tv (o_extract rfl rfl) ?_; refine tla ?_; refine tla ?_; refine nq ?_; refine sr ?_; refine tlm ?_; refine tv (o_loadN (vs := (m).cells) a35 sz35 rfl (by repeat (first | with_reducible exact has_here | with_reducible exact has_pt | apply has_left)) (by show 3 ≤ 3; decide) rfl) ?_; refine tl_c rfl (o_call bd21 rfl (Setw (l := l) (m := m) hX (hr := rs_room (by repeat (first | with_reducible exact rs_sl | assumption | apply Rs.left)) hm))) ?_; rintro _ _ ⟨a32, c32, rfl, hc32, rfl⟩; refine tlm ?_; refine tv (o_extract rfl rfl) ?_; refine tv (o_extract rfl rfl) ?_; refine tla ?_; refine tla ?_; refine nq ?_; refine sr ?_; refine tlm ?_; refine tv (o_loadN (vs := (m).cells) a35 sz35 rfl (by repeat (first | with_reducible exact has_here | with_reducible exact has_pt | apply has_left)) (by show 3 ≤ 3; decide) rfl) ?_
    refine tl_c rfl (o_call bd22 rfl (rSetw (l := l) (m := m) hX)) ?_; rintro _ _ ⟨a38, c38, rfl, hc38, rfl⟩; refine tlm ?_; refine tv (o_extract rfl rfl) ?_; refine tv (o_extract rfl rfl) ?_; refine tla ?_; refine tla ?_; refine nq ?_; refine tc_seq ?_; refine sr ?_; refine tlm ?_; refine tlm ?_; refine tv (o_nei rfl rfl) ?_; refine tlm ?_; refine tl_bool (d := 44) rfl (fun h => ?_) (fun h => ?_)
    · exfalso; simp at h
    · try simp only [lv1, lv2, lv3, lv4, lv5, lv6, Bool.not_true, Bool.not_false] at h
      refine tlm ?_; refine tlm ?_; refine tlm ?_; refine tlm ?_; refine tlm ?_; refine tl_c rfl (o_call bd14 rfl (Fn.pre (twice_f (F * pt b4 (cl m.cells 35) * Sl 3 (.slice a15 (n + 40) c15) (n + 40) (mcs (l ++ rm40 40)) * Sl 3 (.slice a32 (X.length) c32) (X.length) (mcs (X)) * Sl 3 (.slice a38 (X.length) c38) (X.length) (mcs (X))) (ab := a32) (aw := a38) (ai := a15) (l := l) (X := X) (by repeat (first | with_reducible exact rs_sl | assumption | apply Rs.left)) (by repeat (first | with_reducible exact rs_sl | assumption | apply Rs.left)) (by repeat (first | with_reducible exact rs_sl | assumption | apply Rs.left)) (by repeat (first | with_reducible exact rs_sl | assumption | apply Rs.left)) hm (by first | assumption | rfl | omega | (rw [srt_length cPl_swo]; exact hm)) (by omega) (by omega) (by omega)) (fun g w h => h.perm (by ac_rfl)))) ?_; rintro _ _ ⟨rfl, rfl⟩; refine tv (o_not rfl) ?_; refine tv (o_pick_f rfl (by conv => lhs; whnf)) ?_; refine nq ?_; refine tc_cond rfl (fun h => ?_) (fun h => ?_)
      · exfalso; simp at h
      · try simp only [lv1, lv2, lv3, lv4, lv5, lv6, Bool.not_true, Bool.not_false] at h
        refine tc_skip ?_; refine q_then_n ?_; refine sr ?_; refine tlm ?_; refine tv (o_fieldAddr (o := 0) Try.underlying35 rfl rfl sz33 rfl) ?_; refine tv (by first | exact o_load p33 rfl (by repeat (first | with_reducible exact has_here | with_reducible exact has_pt | apply has_left)) rfl | exact o_loadC p33 rfl (by assumption)) ?_; refine tl_c rfl (o_call bd23 rfl (Unsetw (l := l) (id := m.id) hZ (hr := rs_room (by repeat (first | with_reducible exact rs_sl | assumption | apply Rs.left)) hm))) ?_; rintro _ _ ⟨a57, c57, rfl, hc57, rfl⟩; refine tlm ?_; refine tv (o_extract rfl rfl) ?_; refine tv (o_extract rfl rfl) ?_; refine tla ?_; refine tla ?_; refine nq ?_; refine sr ?_; refine tlm ?_; refine tv (o_fieldAddr (o := 0) Try.underlying35 rfl rfl sz33 rfl) ?_; refine tv (by first | exact o_load p33 rfl (by repeat (first | with_reducible exact has_here | with_reducible exact has_pt | apply has_left)) rfl | exact o_loadC p33 rfl (by assumption)) ?_; refine tl_c rfl (o_call bd23 rfl (Unsetw (l := l) (id := m.id) hZ (hr := rs_room (by repeat (first | with_reducible exact rs_sl | assumption | apply Rs.left)) hm))) ?_; rintro _ _ ⟨a64, c64, rfl, hc64, rfl⟩; refine tlm ?_; refine tv (o_extract rfl rfl) ?_; refine tv (o_extract rfl rfl) ?_
        refine tla ?_; refine nq ?_; refine sr ?_; refine tlm ?_; refine tv (o_fieldAddr (o := 0) Try.underlying35 rfl rfl sz33 rfl) ?_; refine tv (by first | exact o_load p33 rfl (by repeat (first | with_reducible exact has_here | with_reducible exact has_pt | apply has_left)) rfl | exact o_loadC p33 rfl (by assumption)) ?_; refine tl_c rfl (o_call bd24 rfl (rUnsetw (l := l) (id := m.id) hZ)) ?_; rintro _ _ ⟨a71, c71, rfl, hc71, rfl⟩; refine tlm ?_; refine tv (o_extract rfl rfl) ?_; refine tv (o_extract rfl rfl) ?_; refine tla ?_; refine tla ?_; refine nq ?_; refine sr ?_; refine tlm ?_; refine tlm ?_; refine tv (o_eqi rfl rfl) ?_; refine tlm ?_; refine tl_bool (d := 77) rfl (fun h => ?_) (fun h => ?_)
        · try simp only [lv1, lv2, lv3, lv4, lv5, lv6, Bool.not_true, Bool.not_false] at h
          refine tlm ?_; refine tlm ?_; refine tlm ?_; refine tlm ?_; refine tlm ?_; refine tl_c rfl (o_call bd14 rfl (Fn.pre (twice_f (F * pt b4 (cl m.cells 35) * Sl 3 (.slice a15 (n + 40) c15) (n + 40) (mcs (l ++ rm40 40)) * Sl 3 (.slice a32 (X.length) c32) (X.length) (mcs (X)) * Sl 3 (.slice a38 (X.length) c38) (X.length) (mcs (X)) * Sl 3 (.slice a64 (Z.length) c64) (Z.length) (mcs (Z)) * Sl 3 (.slice a71 (Z.length) c71) (Z.length) (mcs (Z))) (ab := a64) (aw := a71) (ai := a15) (l := l) (X := Z) (by repeat (first | with_reducible exact rs_sl | assumption | apply Rs.left)) (by repeat (first | with_reducible exact rs_sl | assumption | apply Rs.left)) (by repeat (first | with_reducible exact rs_sl | assumption | apply Rs.left)) (by repeat (first | with_reducible exact rs_sl | assumption | apply Rs.left)) hm (by first | assumption | rfl | omega | (rw [srt_length cPl_swo]; exact hm)) (by omega) (by omega) (by omega)) (fun g w h => h.perm (by ac_rfl)))) ?_; rintro _ _ ⟨rfl, rfl⟩; refine tv (o_pick_t rfl (by conv => lhs; whnf)) ?_; refine tlm ?_; refine tl_bool (d := 85) rfl (fun h => ?_) (fun h => ?_)
          · try simp only [lv1, lv2, lv3, lv4, lv5, lv6, Bool.not_true, Bool.not_false] at h
            refine tl_c rfl (o_call bd15 rfl (worksM_c)) ?_; rintro _ _ ⟨rfl, rfl⟩; refine tv (o_pick_t rfl (by conv => lhs; whnf)) ?_; refine tla ?_; refine nq ?_; refine tc_ret ?_; exact ⟨.bool true, F, res1 rfl rfl, Dr.sat (by repeat (first | with_reducible exact dr_refl | apply dr_keep | apply dr_drop)), rfl, rfl⟩
          · exfalso; simp at h
        · exfalso; simp at h
end Go.Vl

set_option linter.unusedVariables false
set_option linter.unusedSimpArgs false
namespace Go.Vl
open Go Go.Proofs
def smS (n : Int) : Nat := n.natAbs % 1099511627776
def rtE (e : Ed) : Ed := ⟨smS e.at_, smS e.out, smS e.inn⟩
def fwM (i : Nat) (m : Mk) : Mk := ⟨i, smS m.at_, m.gr % 2⟩
def fwL (l : List Mk) : List Mk := l.mapIdx fwM
/-- Marks that may be, in order, none far. -/
structure Few (b : Int) (L : List Mk) : Prop where
  len : L.length ≤ 32
  at_ : ∀ i (h : i < L.length), L[i].id = i ∧ 0 ≤ L[i].at_ ∧ L[i].at_ < b ∧ L[i].gr < 2
theorem Few.may {b : Int} {L : List Mk} (h : Few b L) : mayS L = 0 := by
  refine may_ok h.len (List.all_eq_true.2 fun x hx => ?_) ?_
  · obtain ⟨i, hi, rfl⟩ := List.mem_iff_getElem.1 hx
    obtain ⟨_, h1, _, h2⟩ := h.at_ i hi
    unfold okM; rw [decide_eq_true h1, decide_eq_true (by omega)]; rfl
  · rw [List.Nodup, List.pairwise_iff_getElem]
    intro i j hi hj hij
    rw [List.length_map] at hi hj
    rw [List.getElem_map, List.getElem_map, (h.at_ i hi).1, (h.at_ j hj).1]
    omega
theorem Few.srt {b : Int} {L : List Mk} (h : Few b L) : srt (ltc cId) L = L := by
  refine (srt_of cId_swo ⟨?_, fun _ => rfl⟩).symm
  unfold Sd
  rw [List.pairwise_iff_getElem]
  intro i j hi hj hij
  rw [cId_neg, (h.at_ i hi).1, (h.at_ j hj).1]
  simp; omega
theorem Few.mono {b c : Int} {L : List Mk} (h : Few b L) (hc : b ≤ c) : Few c L := ⟨h.len, fun i hi => by have := h.at_ i hi; exact ⟨this.1, this.2.1, by omega, this.2.2.2⟩⟩
structure Near (b : Int) (e : Ed) : Prop where
  a : 0 ≤ e.at_ ∧ e.at_ ≤ b
  o : 0 ≤ e.out ∧ e.out ≤ b
  i : 0 ≤ e.inn ∧ e.inn ≤ b
/-- Where a mark goes, told by cases. -/
def Went (e : Ed) (x y : Mk) : Prop := y.id = x.id ∧ y.gr = x.gr ∧ ((x.at_ < e.at_ ∧ y.at_ = x.at_) ∨ (e.at_ ≤ x.at_ ∧ e.at_ + e.out < x.at_ ∧ y.at_ = x.at_ - e.out + e.inn) ∨ (e.at_ ≤ x.at_ ∧ x.at_ ≤ e.at_ + e.out ∧ x.gr = 1 ∧ y.at_ = e.at_ + e.inn) ∨ (e.at_ ≤ x.at_ ∧ x.at_ ≤ e.at_ + e.out ∧ x.gr ≠ 1 ∧ y.at_ = e.at_))
theorem Few.map {b c : Int} {L : List Mk} {e : Ed} (h : Few b L) (hw : ∀ i (hi : i < L.length), Went e L[i] (mvM e L[i])) (he : Near 1000000000000000000 e) (hc : ∀ x y : Mk, 0 ≤ x.at_ → x.at_ < b → Went e x y → y.at_ < c) : Few c (L.map (mvM e)) := by
  refine ⟨by rw [List.length_map]; exact h.len, fun i hi => ?_⟩
  rw [List.length_map] at hi
  rw [List.getElem_map]
  obtain ⟨h1, h2, h3, h4⟩ := h.at_ i hi
  obtain ⟨w1, w2, w3⟩ := hw i hi
  obtain ⟨⟨a1, a2⟩, ⟨o1, o2⟩, i1, i2⟩ := he
  exact ⟨by rw [w1, h1], by omega, hc _ _ h2 h3 (hw i hi), by omega⟩
theorem Near.w {e : Ed} (h : Near 1000000000000000000 e) : EdW e := ⟨by have := h.a; omega, by have := h.o; omega, by have := h.i; omega⟩
theorem Near.mono {b c : Int} {e : Ed} (h : Near b e) (hc : b ≤ c) : Near c e := ⟨by have := h.a; omega, by have := h.o; omega, by have := h.i; omega⟩
attribute [local irreducible] Sl pt ro SlB
end Go.Vl

set_option linter.unusedVariables false
set_option linter.unusedSimpArgs false
namespace Go.Vl
open Go Go.Proofs
theorem flatG {α : Type} {f : α → List Value} : ∀ {Cs : List (List Value)} {xs : List α} (_ : Cs.length = xs.length) (_ : ∀ i (h : i < xs.length) (h' : i < Cs.length), Cs[i] = f xs[i]), Cs.flatten = xs.flatMap f
  | [], [], _, _ => rfl
  | c :: Cs, x :: xs, hl, h => by
    have h0 := h 0 (by simp) (by simp)
    simp only [List.getElem_cons_zero] at h0
    rw [List.flatten_cons, h0, flatG (f := f) (Cs := Cs) (xs := xs) (by simpa using hl) (fun i hi hi' => h (i + 1) (by simpa using hi) (by simpa using hi')), List.flatMap_cons]
theorem three_ofG {α : Type} : ∀ {l : List α}, l.length = 3 → ∃ a b c, l = [a, b, c]
  | [a, b, c], _ => ⟨a, b, c, rfl⟩
set_option maxRecDepth 20000 in
theorem rdb_mk (W : World) : Rdb Try.prog W 35 (fun cs (x : Mk) => cs = x.cells ∧ MkW x) := fun H enc sp hd fu cs d pl h hw => by
  obtain ⟨hl, hf⟩ := rdb_fields Try.underlying35 h hw
  have hc : Try.prog.cellsOf 35 = 3 := by kernel_rfl
  have hci : Try.prog.cellsOf 3 = 1 := by kernel_rfl
  have hc3 : Try.prog.cellsOf 33 = 1 := by kernel_rfl
  have hc8 : Try.prog.cellsOf 5 = 1 := by kernel_rfl
  rw [hc] at hl
  obtain ⟨x, e0, w0⟩ := hf 0 _ rfl (rdb_int Try.underlying33)
  obtain ⟨y, e1, w1⟩ := hf 1 _ rfl (rdb_int Try.underlying3)
  obtain ⟨z, e2, w2⟩ := hf 2 _ rfl (rdb_int Try.underlying5)
  obtain ⟨c0, c1, c2, rfl⟩ := three_ofG hl
  simp [hc3] at e0
  simp [hci] at e1
  simp [hc8] at e2
  subst e0 e1 e2
  have b0 := Go.bounds_u32 w0
  have b2 := Go.bounds_u8 w2
  obtain ⟨i, rfl⟩ := Int.eq_ofNat_of_zero_le b0.1
  obtain ⟨g, rfl⟩ := Int.eq_ofNat_of_zero_le b2.1
  exact ⟨⟨i, y, g⟩, rfl, ⟨by show i < 4294967296; omega, i64_wf w1, by show g < 256; omega⟩⟩
def PMkG (A : SP) (cs : List Value) (l : List Mk) : Prop := ∃ a c, cs = [.slice a l.length c] ∧ l.length ≤ c ∧ l.length * 24 ≤ reachBytes ∧ Rs A a (mcs l) ∧ ∀ x ∈ l, MkW x
theorem rdb_mks (W : World) : Rdb Try.prog W 22 (PMkG (old W)) :=
  (rdb_slice (k := 3) (b := 24) Try.underlying22 (by kernel_rfl) (by kernel_rfl) (by decide) (rdb_mk W)).mono fun cs xs ⟨a, cap, Cs, e1, hc, hs, hl, hx, hr⟩ => by
    refine ⟨xs, ⟨a, cap, e1, hc, hs, ?_, fun x hx' => ?_⟩⟩
    · rw [show mcs xs = Cs.flatten from (flatG hl (fun i h h' => (hx i h h').2.1)).symm]; exact hr
    · obtain ⟨i, hi, rfl⟩ := List.mem_iff_getElem.1 hx'
      exact (hx i hi (by omega)).2.2
end Go.Vl

set_option linter.unusedVariables false
set_option linter.unusedSimpArgs false
namespace Go.Vl
open Go Go.Proofs
theorem reach_mk2 {n : Nat} (h : n * 24 ≤ reachBytes) : n ≤ 5864062014640 := by
  have : reachBytes = 140737488351232 := by decide
  omega
theorem MarksSets_L (F : SP) (v : Value) (l : List Mk) (h : PMkG F [v] l) (cs : Array Value) (x : Mk) (hx : cs.toList = x.cells ∧ MkW x) (v2 : Value) (z : Int) (h2 : PInt .i64 [v2] z) : Fn Try.prog 6 #[v, .agg cs, v2] F (fun r B => r = .bool true ∧ B = F) := by
  obtain ⟨a, c, e, hc, hs, hr, hw⟩ := h
  obtain ⟨e2, _⟩ := h2
  simp only [List.cons.injEq, and_true] at e e2
  subst e e2
  obtain rfl : cs = x.cells.toArray := by rw [← hx.1]
  exact MarksSets_f F hr rfl (reach_mk2 hs)
end Go.Vl
