/- What the row rests on, part 5: a calculus of assertions, walks of functions over it, and plain laws. Conditions: none. -/
import Derived.Deep.QuietTactic
import Derived.BigQuiet
import Derived.WalkKit
import Derived.Test.YtpjjmbmmfelooaaProg
import Derived.OrdersHeld
import Derived.Laws.BytesArg
import Derived.RangeFuncRecord
import Derived.TacticsIn
import Derived.Deep.Slices
import Derived.OpenShut
import Derived.ChangeArms
import Derived.SizedLaws
import Derived.ChangeSame
import Derived.Test.YtpjjmbmmfelooaaRows
import Derived.Sort.QuietThIn
import Derived.Maps.RangeRun
import Derived.ScopeJumps
import Derived.Shelf.SortM.SortNone
import Derived.Shelf.SortM.Plain
import Derived.Ground.SlgmProg
import Derived.Test.YtpjjmbmmfelooaaMg4
set_option linter.unusedVariables false
set_option linter.unusedSimpArgs false
namespace Go.Vl
open Go Go.Proofs
theorem bys_at9 {xs : List Nat} {i x : Nat} (h : xs[i]? = some x) : (bys xs)[i]? = some (.int .u8 (x : Nat)) := by unfold bys; rw [List.getElem?_map, h]; rfl
theorem zbk : zeroE Try.prog 35 = some (.agg (bkc tf0).toArray) := by kernel_rfl
theorem cbk : (Value.agg (bkc tf0).toArray).cells = (bkc tf0).toArray := by kernel_rfl
theorem idl_open {xs : List Nat} {t : Nat} : idlS (stD xs) (if false = true then none else some t) = 3 := by
  unfold idlS; rw [if_neg (by rw [stD_off]; decide)]; rfl
attribute [local irreducible] crk crL crc Sl pt ro Dev imgS recS readS recsF rdW rdO rkT Parts rvl recordsS runsL adrF kcl xcl kys runA runsF layF linR flLs stoL writeT writeS comS clearS extX ovF newS fW fW1 sizedL bkc ptl stI stD laysK sumL
set_option maxRecDepth 20000 in
set_option maxHeartbeats 4000000 in
theorem TxnUnseen_f (F : SP) {ai pa : Option Addr} {mi ci n pc : Nat} {xs : List Nat} {l : List Pu12} {x y : Int} (hi9 : Rs F ai (bys xs)) (hm9 : xs.length = mi) (hb9 : ∀ z ∈ xs, z < 256) (hml : mi ≤ 140737488351232) (hr : Rs F pa (ptl l)) (hn : l.length = n) (hw : ∀ z ∈ l, PuW F z) (hx : -9223372036854775808 ≤ x ∧ x ≤ 9223372036854775807) (hy : -9223372036854775808 ≤ y ∧ y ≤ 9223372036854775807) :
    Fn Try.prog 3 #[.agg #[.slice ai mi ci, .slice pa n pc, .int .i64 x, .int .i64 y]] (F) (fun r B => r = .bool true ∧ B = F) := by
  refine fn_enterW (args := [.agg #[.slice ai mi ci, .slice pa n pc, .int .i64 x, .int .i64 y]]) Try.func3 rfl Try.ntmps3 (by simp) ?_
  have hls := stD_len xs
  have hso := stD_off xs
  have hsi := stI_len xs
  have hst := stD_stp hb9
  have him := stD_img hb9
  have hx0 := Int.emod_nonneg x (show (1024 : Int) ≠ 0 by decide)
  have hx1 := Int.emod_lt_of_pos x (show (0 : Int) < 1024 by decide)
  obtain ⟨q, hq⟩ : ∃ q : Nat, x % 1024 = q := ⟨(x % 1024).toNat, by omega⟩
  have hq1 : q < 1024 := by omega
  have hy0 := Int.emod_nonneg y (show ((1025 - q : Nat) : Int) ≠ 0 by omega)
  have hy1 := Int.emod_lt_of_pos y (show (0 : Int) < ((1025 - q : Nat) : Int) by omega)
  obtain ⟨m, hm⟩ : ∃ m : Nat, y % ((1025 - q : Nat) : Int) = m := ⟨(y % ((1025 - q : Nat) : Int)).toNat, by omega⟩
  have hqm : q + m ≤ 1024 := by omega
  refine sr ?_; refine tl_x rfl (o_box rfl rfl) ?_; rintro _ _ ⟨b1, rfl, rfl⟩; refine tla ?_; refine nq ?_; refine sr ?_; refine tv (o_fieldAddr (o := 0) Try.underlying25 rfl rfl sz22 rfl) ?_; refine tv (by first | exact o_load p22 rfl (by repeat (first | with_reducible exact has_here | with_reducible exact has_pt | apply has_left)) rfl | exact o_loadC p22 rfl (by assumption)) ?_; refine tl_c rfl (o_call bd4 rfl (start12_c (xs := xs) (hr := by repeat (first | exact hi9 | apply Rs.left)) (hm := hm9) (hb := hb9))) ?_; rintro _ _ ⟨a25, c25, d25, p25, t25, lg25, mb25, rfl, hc25, rfl⟩; refine tlm ?_; refine tv (o_extract rfl rfl) ?_; refine tv (o_extract rfl rfl) ?_; refine tv (o_extract rfl rfl) ?_; refine tv (o_extract rfl rfl) ?_; refine tla ?_; refine tla ?_; refine tla ?_; refine tla ?_; refine nq ?_; refine sr ?_; refine tv (o_bS (l := bkc tf0) (z := bkc tf0) (vs := []) pv_nil Try.underlying35 zbk (pl35 Try.underlying35) rfl) ?_; refine tl_x rfl (o_box rfl cbk) ?_; rintro _ _ ⟨b31, rfl, rfl⟩; refine tla ?_; refine nq ?_; refine tc_seq ?_; refine sr ?_; refine tlm ?_; refine tv (o_eqp Try.underlying28 rfl rfl) ?_; refine tlm ?_; refine tl_bool (d := 34) rfl (fun h => ?_) (fun h => ?_)
  · exfalso; simp at h
  · try simp only [lv1, lv2, lv3, lv4, lv5, lv6, Bool.not_true, Bool.not_false] at h
    refine tl_c rfl (o_call bd5 rfl (works_c)) ?_; rintro _ _ ⟨rfl, rfl⟩; refine tv (o_not rfl) ?_; refine tv (o_pick_f rfl (by conv => lhs; whnf)) ?_; refine tlm ?_; refine tl_bool (d := 38) rfl (fun h => ?_) (fun h => ?_)
    · exfalso; simp at h
    · try simp only [lv1, lv2, lv3, lv4, lv5, lv6, Bool.not_true, Bool.not_false] at h
      refine tlm ?_; refine tlm ?_; refine tv (o_fieldAddr (o := 1) Try.underlying25 rfl rfl sz23 rfl) ?_; refine tv (by first | exact o_load p23 rfl (by repeat (first | with_reducible exact has_here | with_reducible exact has_pt | apply has_left)) rfl | exact o_loadC p23 rfl (by assumption)) ?_; refine tl_c rfl (o_call bd6 rfl (puts12_c (A := F * pt b1 (cl [.slice ai mi ci, .slice pa n pc, .int .i64 x, .int .i64 y] 25) * Sl 1 (.slice a25 1024 c25) 1024 (bys (stI xs))) (bk := b31) (t := t25) (p := p25) (lg := lg25) (d := d25) (mb := mb25) (l := l) (M := ⟨[], 0⟩) (s := stD xs) (hA := by ac_rfl) (hr := by repeat (first | exact hr | apply Rs.left)) (hn := hn) (hw := fun z hz => ((hw z hz).left).left) (hM := mf_nil 0 1024) (hls := hls) (ho := hso))) ?_; rintro _ _ ⟨M43, rfl, hM43, rfl⟩
      obtain ⟨L, hL⟩ : ∃ L, runsF 1024 false (laysK l 8) = L := ⟨_, rfl⟩
      have hQ := runQ_F 1024 false (laysK l 8)
      rw [hL] at hQ
      have hP := runP_F (k := false) hM43
      rw [hL] at hP
      have hPs := hP.sum
      have hPl := hP.len
      have hal := adr_len 1024 false (laysK l 8)
      have hXl : (((stI xs).drop q).take m).length = m := by rw [List.length_take, List.length_drop]; omega
      refine tv (o_not rfl) ?_; refine tv (o_pick_f rfl (by conv => lhs; whnf)) ?_; refine nq ?_; refine tc_cond rfl (fun h => ?_) (fun h => ?_)
      · exfalso; simp at h
      · try simp only [lv1, lv2, lv3, lv4, lv5, lv6, Bool.not_true, Bool.not_false] at h
        refine tc_skip ?_; refine q_then_n ?_; refine sr ?_; refine tv (o_fieldAddr (o := 2) Try.underlying25 rfl rfl sz3 rfl) ?_; refine tv (by first | exact o_load p3 rfl (by repeat (first | with_reducible exact has_here | with_reducible exact has_pt | apply has_left)) rfl | exact o_loadC p3 rfl (by assumption)) ?_; refine tl_c rfl (o_call bd7 rfl (Within_c (i := x) (n := 1024))) ?_; rintro _ _ ⟨rfl, rfl⟩; refine tl_env (d := 48) (v := .int .i64 (q : Nat)) (by show Value.int .i64 (x % 1024) = _; rw [hq]) ?_; refine tla ?_; refine nq ?_; refine sr ?_; refine tv (o_fieldAddr (o := 3) Try.underlying25 rfl rfl sz3 rfl) ?_; refine tv (by first | exact o_load p3 rfl (by repeat (first | with_reducible exact has_here | with_reducible exact has_pt | apply has_left)) rfl | exact o_loadC p3 rfl (by assumption)) ?_; refine tlm ?_; refine tv (by first | exact o_subI rfl rfl (by omega) | exact o_sub rfl rfl) ?_; refine tv (by first | exact o_addI rfl rfl (by omega) | exact o_add rfl rfl) ?_; refine tl_env (d := 53) (v := .int .i64 ((1025 - q : Nat) : Int)) (congrArg (Value.int .i64) (by omega)) ?_; refine tl_c rfl (o_call bd7 rfl (Within_c (i := y) (n := ((1025 - q : Nat) : Int)))) ?_; rintro _ _ ⟨rfl, rfl⟩; refine tl_env (d := 54) (v := .int .i64 (m : Nat)) (by show Value.int .i64 (y % ((1025 - q : Nat) : Int)) = _; rw [hm]) ?_
        refine tla ?_; refine nq ?_; refine sr ?_; refine tlm ?_; refine tlm ?_; refine tlm ?_; refine tl_c rfl (o_call bd8 rfl (LoadT_c (s := stD xs) (n := 1024) (f := laysK l 8) (q := q) (m := m) (hM := hM43))) ?_; rintro _ _ ⟨a59, c59, rfl, hc59, rfl⟩
        rw [him]
        refine tlm ?_; refine tv (o_extract rfl rfl) ?_; refine tv (o_extract rfl rfl) ?_; refine tla ?_; refine tla ?_; refine nq ?_; refine sr ?_; refine tlm ?_; refine tlm ?_; refine tlm ?_; refine tl_c rfl (o_call bd9 rfl (Load12_c (hc := txa_dev (by repeat (first | with_reducible exact ct_here | apply ct_left))) (hp := txa_p (by repeat (first | with_reducible exact ct_here | apply ct_left))) (q := q) (m := m))) ?_; rintro _ _ ⟨a66, c66, rfl, hc66, rfl⟩
        rw [him]
        refine tlm ?_; refine tv (o_extract rfl rfl) ?_; refine tv (o_extract rfl rfl) ?_; refine tla ?_; refine tla ?_; refine nq ?_; refine tc_seq ?_; refine sr ?_; refine tlm ?_; refine tv (o_nei rfl rfl) ?_; refine tlm ?_; refine tl_bool (d := 71) rfl (fun h => ?_) (fun h => ?_)
        · exfalso; simp at h
        · try simp only [lv1, lv2, lv3, lv4, lv5, lv6, Bool.not_true, Bool.not_false] at h
          refine tlm ?_; refine tv (o_nei rfl rfl) ?_; refine tv (o_pick_f rfl (by conv => lhs; whnf)) ?_; refine tlm ?_; refine tl_bool (d := 75) rfl (fun h => ?_) (fun h => ?_)
          · exfalso; simp at h
          · try simp only [lv1, lv2, lv3, lv4, lv5, lv6, Bool.not_true, Bool.not_false] at h
            refine tlm ?_; refine tlm ?_; refine tlm ?_; refine tlm ?_; refine tlm ?_; refine tv (by first | exact o_addI rfl rfl (by omega) | exact o_add rfl rfl) ?_; refine tl_env (d := 81) (v := .int .i64 ((q + m : Nat) : Int)) (by first | rfl | exact congrArg (Value.int .i64) (by omega)) ?_; refine tv (o_slice (l := q) (h := q + m) Try.underlying22 sz5 rfl (bnd_nat rfl) (bnd_nat rfl) (by omega) (by omega)) ?_; refine tl_env (d := 82) (v := .slice (cutAddr a25 c25 q 1) m (c25 - q)) (by show Value.slice (cutAddr _ _ q 1) (q + m - q) (c25 - q) = _; rw [Nat.add_sub_cancel_left]) ?_; refine tl_c rfl (o_call bd10 rfl (EqBytes_c (xs := ((stI xs).drop q).take m) (ys := ((stI xs).drop q).take m) (h1 := (by repeat (first | with_reducible exact rs_sl | with_reducible exact rs_pt0 | exact hi9 | exact hr | apply Rs.left))) (h2 := rs_mid (l := q) (m := m) (by repeat (first | with_reducible exact rs_sl | with_reducible exact rs_pt0 | exact hi9 | exact hr | apply Rs.left)) (by omega)) (hx := hXl) (hy := hXl))) ?_; rintro _ _ ⟨rfl, rfl⟩; refine tl_env (d := 83) (v := .bool true) (by show Value.bool (decide _) = _; rw [decide_eq_true rfl]) ?_; refine tv (o_not rfl) ?_; refine tv (o_pick_f rfl (by conv => lhs; whnf)) ?_; refine tlm ?_; refine tl_bool (d := 86) rfl (fun h => ?_) (fun h => ?_)
            · exfalso; simp at h
            · try simp only [lv1, lv2, lv3, lv4, lv5, lv6, Bool.not_true, Bool.not_false] at h
              refine tlm ?_; refine tv (o_len Try.underlying22 rfl) ?_; refine tlm ?_; refine tv (o_nei rfl rfl) ?_; refine tv (o_pick_f rfl (by conv => lhs; whnf)) ?_; refine nq ?_; refine tc_cond rfl (fun h => ?_) (fun h => ?_)
              · exfalso; simp at h
              · try simp only [lv1, lv2, lv3, lv4, lv5, lv6, Bool.not_true, Bool.not_false] at h
                refine tc_skip ?_; refine q_then_n ?_; refine tc_seq ?_; refine sr ?_; refine tla ?_; refine nq ?_; refine tc_block ?_; refine tc_loop (fun kk ρ BB => ∃ (i : Nat), (i ≤ m) ∧ kk = m - i ∧ ρ 14 = .int .i64 (i : Nat) ∧ ρ 3 = .slice a25 1024 c25 ∧ ρ 4 = .pointer (some ⟨d25, 0, none⟩) ∧ ρ 5 = .pointer (some ⟨p25, 0, none⟩) ∧ ρ 6 = .pointer (some ⟨t25, 0, none⟩) ∧ ρ 7 = .pointer (some ⟨b31, 0, none⟩) ∧ ρ 8 = .int .i64 (q : Nat) ∧ ρ 9 = .int .i64 (m : Nat) ∧ ρ 10 = .slice a59 m c59 ∧ Dr BB (F * pt b1 (cl [.slice ai mi ci, .slice pa n pc, .int .i64 x, .int .i64 y] 25) * Sl 1 (.slice a25 1024 c25) 1024 (bys (stI xs)) * TxA t25 p25 lg25 d25 mb25 128 576 M43 false (stD xs) * pt b31 (cl (bkc (laysK l 8)) 35) * Sl 1 (.slice a59 m c59) m (bys (ovF (laysK l 8) q (((stI xs).drop q).take m))))) (m := m - (0)) ?_ ?_
                · exact ⟨0, by omega, rfl, rfl, rfl, rfl, rfl, rfl, rfl, rfl, rfl, rfl, (by repeat (first | with_reducible exact dr_refl | apply dr_keep | apply dr_drop))⟩
                · intro k ρ B hI
                  obtain ⟨i, hp0, hkk1, hE14, hE3, hE4, hE5, hE6, hE7, hE8, hE9, hE10, hBA⟩ := hI
                  refine tc_pre hBA.sat ?_
                  clear hBA
                  refine tc_env (d := 14) hE14 ?_; refine tc_env (d := 3) hE3 ?_; refine tc_env (d := 4) hE4 ?_; refine tc_env (d := 5) hE5 ?_; refine tc_env (d := 6) hE6 ?_; refine tc_env (d := 7) hE7 ?_; refine tc_env (d := 8) hE8 ?_; refine tc_env (d := 9) hE9 ?_; refine tc_env (d := 10) hE10 ?_
                  clear hE14 hE3 hE4 hE5 hE6 hE7 hE8 hE9 hE10
                  refine tc_seq ?_; refine sr ?_; refine tlm ?_; refine tlm ?_; refine tv (o_lss rfl rfl) ?_; refine nq ?_; refine tc_cond rfl (fun h => ?_) (fun h => ?_)
                  · have hi9m : i < m := by first | omega | (simp at h; omega)
                    obtain ⟨v, hv⟩ : ∃ v, (((stI xs).drop q).take m)[i]? = some v := ⟨_, List.getElem?_eq_getElem (by omega)⟩
                    have hbi : (stI xs)[q + i]? = some v := by
                      rw [List.getElem?_take, if_pos hi9m, List.getElem?_drop] at hv
                      exact hv
                    have hkn := kd_nn (laysK l 8) (q + i)
                    refine tc_skip ?_; refine q_then_n ?_; refine tc_seq ?_; refine tc_block ?_; refine tc_seq ?_; refine tc_cut (fun ρ BB => ρ 144 = .bool false ∧ ρ 3 = .slice a25 1024 c25 ∧ ρ 4 = .pointer (some ⟨d25, 0, none⟩) ∧ ρ 5 = .pointer (some ⟨p25, 0, none⟩) ∧ ρ 6 = .pointer (some ⟨t25, 0, none⟩) ∧ ρ 7 = .pointer (some ⟨b31, 0, none⟩) ∧ ρ 8 = .int .i64 (q : Nat) ∧ ρ 9 = .int .i64 (m : Nat) ∧ ρ 10 = .slice a59 m c59 ∧ ρ 14 = .int .i64 (i : Nat) ∧ Dr BB (F * pt b1 (cl [.slice ai mi ci, .slice pa n pc, .int .i64 x, .int .i64 y] 25) * Sl 1 (.slice a25 1024 c25) 1024 (bys (stI xs)) * TxA t25 p25 lg25 d25 mb25 128 576 M43 false (stD xs) * pt b31 (cl (bkc (laysK l 8)) 35) * Sl 1 (.slice a59 m c59) m (bys (ovF (laysK l 8) q (((stI xs).drop q).take m))))) ?_ ?_
                    · skip
                      refine tc_regq mo (by kernel_rfl) ?_; refine ql_v rfl (o_move (by conv => lhs; whnf)) ?_; refine ql_v rfl (o_move (by conv => lhs; whnf)) ?_; refine ql_v rfl (o_move (by conv => lhs; whnf)) ?_; refine ql_v rfl (by first | exact o_addI rfl rfl (by omega) | exact o_add rfl rfl) ?_; refine ql_env (d := 100) (v := .int .i64 ((q + i : Nat) : Int)) (by first | rfl | exact congrArg (Value.int .i64) (by omega)) ?_; refine ql_v rfl (o_nilCheck rfl) ?_; refine ql_v rfl (o_fieldAddr (o := 0) Try.underlying35 rfl rfl sz32 rfl) ?_; refine ql_v rfl (o_indexAddrAN1 (j := q + i) Try.underlying32 sz3 rfl rfl (by omega)) ?_; refine ql_env (d := 103) (v := .pointer (some ⟨b31, q + i, none⟩)) (by show Value.pointer (some ⟨b31, 0 + 0 + (q + i), none⟩) = _; simp only [Nat.zero_add]) ?_; refine ql_v rfl (o_load p3 rfl (by repeat (first | with_reducible exact has_here | with_reducible exact has_pt | apply has_left)) (bkc_kat (by omega))) ?_; refine ql_v rfl (o_gtr rfl rfl) ?_; refine ql_v rfl (o_move (by conv => lhs; whnf)) ?_; refine ql_bool (d := 106) rfl (fun h => ?_) (fun h => ?_)
                      · have g106 : (0 < kdF (laysK l 8) (q + i)) := by first | exact of_decide_eq_true h | (have h2 := h; simp at h2; omega) | simpa using h
                        refine ql_v rfl (o_move (by conv => lhs; whnf)) ?_; refine ql_v rfl (o_move (by conv => lhs; whnf)) ?_; refine ql_v rfl (o_ixP1 (a := a59) Try.underlying22 sz5 rfl rfl hi9m (nn_rs (xs := bys (ovF (laysK l 8) q (((stI xs).drop q).take m))) (by repeat (first | with_reducible exact rs_sl | with_reducible exact rs_pt0 | exact hi9 | exact hr | apply Rs.left)) (by rw [bys_length, ovF_len]; omega))) ?_; refine ql_v rfl (o_ldP (a := a59) (xs := bys (ovF (laysK l 8) q (((stI xs).drop q).take m))) p5 rfl (by repeat (first | with_reducible exact rs_sl | with_reducible exact rs_pt0 | exact hi9 | exact hr | apply Rs.left)) (bys_at9 (ov_at hv))) ?_; refine ql_env (d := 110) (v := .int .u8 (byF (laysK l 8) (q + i) : Nat)) (by show Value.int .u8 (((if kdF (laysK l 8) (q + i) = 0 then v else byF (laysK l 8) (q + i) : Nat)) : Int) = _; rw [if_neg (by omega)]) ?_; refine ql_v rfl (o_move (by conv => lhs; whnf)) ?_; refine ql_v rfl (o_move (by conv => lhs; whnf)) ?_; refine ql_v rfl (o_move (by conv => lhs; whnf)) ?_; refine ql_v rfl (by first | exact o_addI rfl rfl (by omega) | exact o_add rfl rfl) ?_; refine ql_env (d := 114) (v := .int .i64 ((q + i : Nat) : Int)) (by first | rfl | exact congrArg (Value.int .i64) (by omega)) ?_; refine ql_v rfl (o_nilCheck rfl) ?_
                        refine ql_v rfl (o_fieldAddr (o := 1024) Try.underlying35 rfl rfl sz33 rfl) ?_; refine ql_v rfl (o_indexAddrAN1 (j := q + i) Try.underlying33 sz5 rfl rfl (by omega)) ?_; refine ql_env (d := 117) (v := .pointer (some ⟨b31, 1024 + (q + i), none⟩)) (by show Value.pointer (some ⟨b31, 0 + 1024 + (q + i), none⟩) = _; simp only [Nat.zero_add]) ?_; refine ql_v rfl (o_load p5 rfl (by repeat (first | with_reducible exact has_here | with_reducible exact has_pt | apply has_left)) (bkc_bat (by omega))) ?_; refine ql_v rfl (o_nei rfl rfl) ?_; refine ql_env (d := 119) (v := .bool false) (by show Value.bool (decide _) = _; rw [decide_eq_false (by simp)]) ?_; refine ql_v rfl (o_pick_t rfl (by conv => lhs; whnf)) ?_; refine ql_v rfl (o_move (by conv => lhs; whnf)) ?_; refine ql_bool (d := 121) rfl (fun h => ?_) (fun h => ?_)
                        · exfalso; simp at h
                        · try simp only [lv1, lv2, lv3, lv4, lv5, lv6, Bool.not_true, Bool.not_false] at h
                          refine ql_v rfl (o_move (by conv => lhs; whnf)) ?_; refine ql_v rfl (o_move (by conv => lhs; whnf)) ?_; refine ql_v rfl (o_move (by conv => lhs; whnf)) ?_; refine ql_v rfl (by first | exact o_addI rfl rfl (by omega) | exact o_add rfl rfl) ?_; refine ql_env (d := 125) (v := .int .i64 ((q + i : Nat) : Int)) (by first | rfl | exact congrArg (Value.int .i64) (by omega)) ?_; refine ql_v rfl (o_nilCheck rfl) ?_; refine ql_v rfl (o_fieldAddr (o := 0) Try.underlying35 rfl rfl sz32 rfl) ?_; refine ql_v rfl (o_indexAddrAN1 (j := q + i) Try.underlying32 sz3 rfl rfl (by omega)) ?_; refine ql_env (d := 128) (v := .pointer (some ⟨b31, q + i, none⟩)) (by show Value.pointer (some ⟨b31, 0 + 0 + (q + i), none⟩) = _; simp only [Nat.zero_add]) ?_; refine ql_v rfl (o_load p3 rfl (by repeat (first | with_reducible exact has_here | with_reducible exact has_pt | apply has_left)) (bkc_kat (by omega))) ?_; refine ql_v rfl (o_eqi rfl rfl) ?_; refine ql_v rfl (o_move (by conv => lhs; whnf)) ?_; refine ql_bool (d := 131) rfl (fun h => ?_) (fun h => ?_)
                          · exfalso; first | (have h9 := of_decide_eq_true h; omega) | (have h9 := of_decide_eq_false h; omega) | (simp at h; omega)
                          · try simp only [lv1, lv2, lv3, lv4, lv5, lv6, Bool.not_true, Bool.not_false] at h
                            refine ql_skip rfl ?_; refine ql_skip rfl ?_; refine ql_skip rfl ?_; refine ql_skip rfl ?_; refine ql_skip rfl ?_; refine ql_skip rfl ?_; refine ql_skip rfl ?_; refine ql_skip rfl ?_; refine ql_skip rfl ?_; refine ql_skip rfl ?_; refine ql_skip rfl ?_; refine ql_v rfl (o_pick_f rfl (by conv => lhs; whnf)) ?_; refine ql_v rfl (o_pick_f rfl (by conv => lhs; whnf)) ?_; refine ql_nil ?_; exact ⟨rfl, rfl, rfl, rfl, rfl, rfl, rfl, rfl, rfl, rfl, (by repeat (first | with_reducible exact dr_refl | apply dr_keep | apply dr_drop))⟩
                      · have g106 : ¬ (0 < kdF (laysK l 8) (q + i)) := by first | exact of_decide_eq_false h | (have h2 := h; simp at h2; omega) | simpa using h
                        refine ql_skip rfl ?_; refine ql_skip rfl ?_; refine ql_skip rfl ?_; refine ql_skip rfl ?_; refine ql_skip rfl ?_; refine ql_skip rfl ?_; refine ql_skip rfl ?_; refine ql_skip rfl ?_; refine ql_skip rfl ?_; refine ql_skip rfl ?_; refine ql_skip rfl ?_; refine ql_skip rfl ?_; refine ql_skip rfl ?_; refine ql_v rfl (o_pick_f rfl (by conv => lhs; whnf)) ?_; refine ql_v rfl (o_move (by conv => lhs; whnf)) ?_; refine ql_v rfl (o_move (by conv => lhs; whnf)) ?_; refine ql_v rfl (o_move (by conv => lhs; whnf)) ?_; refine ql_v rfl (o_move (by conv => lhs; whnf)) ?_; refine ql_v rfl (by first | exact o_addI rfl rfl (by omega) | exact o_add rfl rfl) ?_; refine ql_env (d := 125) (v := .int .i64 ((q + i : Nat) : Int)) (by first | rfl | exact congrArg (Value.int .i64) (by omega)) ?_; refine ql_v rfl (o_nilCheck rfl) ?_; refine ql_v rfl (o_fieldAddr (o := 0) Try.underlying35 rfl rfl sz32 rfl) ?_; refine ql_v rfl (o_indexAddrAN1 (j := q + i) Try.underlying32 sz3 rfl rfl (by omega)) ?_; refine ql_env (d := 128) (v := .pointer (some ⟨b31, q + i, none⟩)) (by show Value.pointer (some ⟨b31, 0 + 0 + (q + i), none⟩) = _; simp only [Nat.zero_add]) ?_
                        refine ql_v rfl (o_load p3 rfl (by repeat (first | with_reducible exact has_here | with_reducible exact has_pt | apply has_left)) (bkc_kat (by omega))) ?_; refine ql_v rfl (o_eqi rfl rfl) ?_; refine ql_v rfl (o_move (by conv => lhs; whnf)) ?_; refine ql_bool (d := 131) rfl (fun h => ?_) (fun h => ?_)
                        · try simp only [lv1, lv2, lv3, lv4, lv5, lv6, Bool.not_true, Bool.not_false] at h
                          refine ql_v rfl (o_move (by conv => lhs; whnf)) ?_; refine ql_v rfl (o_move (by conv => lhs; whnf)) ?_; refine ql_v rfl (o_ixP1 (a := a59) Try.underlying22 sz5 rfl rfl hi9m (nn_rs (xs := bys (ovF (laysK l 8) q (((stI xs).drop q).take m))) (by repeat (first | with_reducible exact rs_sl | with_reducible exact rs_pt0 | exact hi9 | exact hr | apply Rs.left)) (by rw [bys_length, ovF_len]; omega))) ?_; refine ql_v rfl (o_ldP (a := a59) (xs := bys (ovF (laysK l 8) q (((stI xs).drop q).take m))) p5 rfl (by repeat (first | with_reducible exact rs_sl | with_reducible exact rs_pt0 | exact hi9 | exact hr | apply Rs.left)) (bys_at9 (ov_at hv))) ?_; refine ql_env (d := 135) (v := .int .u8 (v : Nat)) (by show Value.int .u8 (((if kdF (laysK l 8) (q + i) = 0 then v else byF (laysK l 8) (q + i) : Nat)) : Int) = _; rw [if_pos (by omega)]) ?_; refine ql_v rfl (o_move (by conv => lhs; whnf)) ?_; refine ql_v rfl (o_move (by conv => lhs; whnf)) ?_; refine ql_v rfl (o_move (by conv => lhs; whnf)) ?_; refine ql_v rfl (by first | exact o_addI rfl rfl (by omega) | exact o_add rfl rfl) ?_; refine ql_env (d := 139) (v := .int .i64 ((q + i : Nat) : Int)) (by first | rfl | exact congrArg (Value.int .i64) (by omega)) ?_; refine ql_v rfl (o_ixP1 (a := a25) Try.underlying22 sz5 rfl rfl (by omega) (nn_rs (xs := bys (stI xs)) (by repeat (first | with_reducible exact rs_sl | with_reducible exact rs_pt0 | exact hi9 | exact hr | apply Rs.left)) (by rw [bys_length]; omega))) ?_
                          refine ql_v rfl (o_ldP (a := a25) (xs := bys (stI xs)) p5 rfl (by repeat (first | with_reducible exact rs_sl | with_reducible exact rs_pt0 | exact hi9 | exact hr | apply Rs.left)) (bys_at9 hbi)) ?_; refine ql_v rfl (o_nei rfl rfl) ?_; refine ql_env (d := 142) (v := .bool false) (by show Value.bool (decide _) = _; rw [decide_eq_false (by simp)]) ?_; refine ql_v rfl (o_pick_t rfl (by conv => lhs; whnf)) ?_; refine ql_v rfl (o_pick_f rfl (by conv => lhs; whnf)) ?_; refine ql_nil ?_; exact ⟨rfl, rfl, rfl, rfl, rfl, rfl, rfl, rfl, rfl, rfl, (by repeat (first | with_reducible exact dr_refl | apply dr_keep | apply dr_drop))⟩
                        · exfalso; first | (have h9 := of_decide_eq_true h; omega) | (have h9 := of_decide_eq_false h; omega) | (simp at h; omega)
                    · intro ρ B hI
                      obtain ⟨hE144, hE3, hE4, hE5, hE6, hE7, hE8, hE9, hE10, hE14, hBA⟩ := hI
                      refine q_then_n ?_; refine tc_pre hBA.sat ?_
                      clear hBA
                      refine tc_env (d := 144) hE144 ?_; refine tc_env (d := 3) hE3 ?_; refine tc_env (d := 4) hE4 ?_; refine tc_env (d := 5) hE5 ?_; refine tc_env (d := 6) hE6 ?_; refine tc_env (d := 7) hE7 ?_; refine tc_env (d := 8) hE8 ?_; refine tc_env (d := 9) hE9 ?_; refine tc_env (d := 10) hE10 ?_; refine tc_env (d := 14) hE14 ?_
                      clear hE144 hE3 hE4 hE5 hE6 hE7 hE8 hE9 hE10 hE14
                      refine tc_cond rfl (fun h => ?_) (fun h => ?_)
                      · exfalso; simp at h
                      · try simp only [lv1, lv2, lv3, lv4, lv5, lv6, Bool.not_true, Bool.not_false] at h
                        refine tc_skip ?_; refine q_block_n (q_then_n ?_); refine tc_reg ?_; refine tlm ?_; refine tv (by first | exact o_addI rfl rfl (by omega) | exact o_add rfl rfl) ?_; refine tla ?_; refine nq ?_; exact ⟨_, by omega, i + 1, by omega, rfl, rfl, rfl, rfl, rfl, rfl, rfl, rfl, rfl, rfl, (by repeat (first | with_reducible exact dr_refl | apply dr_keep | apply dr_drop))⟩
                  · try simp only [lv1, lv2, lv3, lv4, lv5, lv6, Bool.not_true, Bool.not_false] at h
                    refine tc_exit ?_; refine q_then_e (q_then_e (q_block_x (q_then_n ?_))); refine sr ?_; refine tlm ?_; refine tl_c rfl (o_call bd11 rfl (Extents12_c (M := M43) (p := p25) (f := laysK l 8) (L := L) (ht := txa_t (by repeat (first | with_reducible exact ct_here | apply ct_left))) (hmb := txa_mb (by repeat (first | with_reducible exact ct_here | apply ct_left))) (hM := hM43) (hX := hL) (hLl := by omega))) ?_; rintro _ _ ⟨a146, c146, rfl, hc146, rfl⟩; refine tla ?_; refine nq ?_; refine sr ?_; refine tla ?_; refine nq ?_; refine tc_seq ?_; refine sr ?_; refine tla ?_; refine nq ?_; refine tc_block ?_; refine tc_loop (fun kk ρ BB => ∃ (i : Nat), (i ≤ L.length) ∧ kk = L.length - i ∧ ρ 17 = .int .i64 (i : Nat) ∧ ρ 16 = .int .i64 ((sumL (L.take i) : Nat) : Int) ∧ ρ 3 = .slice a25 1024 c25 ∧ ρ 4 = .pointer (some ⟨d25, 0, none⟩) ∧ ρ 5 = .pointer (some ⟨p25, 0, none⟩) ∧ ρ 6 = .pointer (some ⟨t25, 0, none⟩) ∧ ρ 7 = .pointer (some ⟨b31, 0, none⟩) ∧ ρ 15 = .slice a146 L.length c146 ∧ Dr BB (F * pt b1 (cl [.slice ai mi ci, .slice pa n pc, .int .i64 x, .int .i64 y] 25) * Sl 1 (.slice a25 1024 c25) 1024 (bys (stI xs)) * TxA t25 p25 lg25 d25 mb25 128 576 M43 false (stD xs) * pt b31 (cl (bkc (laysK l 8)) 35) * Sl 2 (.slice a146 L.length c146) L.length (xcl (extX L)))) (m := L.length - (0)) ?_ ?_
                    · exact ⟨0, by omega, rfl, rfl, by show Value.int .i64 0 = _; rw [List.take_zero, sumL_nil]; rfl, rfl, rfl, rfl, rfl, rfl, rfl, (by repeat (first | with_reducible exact dr_refl | apply dr_keep | apply dr_drop))⟩
                    · intro k ρ B hI
                      obtain ⟨i, hq_0, hkk2, hE17, hE16, hE3, hE4, hE5, hE6, hE7, hE15, hBA⟩ := hI
                      refine tc_pre hBA.sat ?_
                      clear hBA
                      refine tc_env (d := 17) hE17 ?_; refine tc_env (d := 16) hE16 ?_; refine tc_env (d := 3) hE3 ?_; refine tc_env (d := 4) hE4 ?_; refine tc_env (d := 5) hE5 ?_; refine tc_env (d := 6) hE6 ?_; refine tc_env (d := 7) hE7 ?_; refine tc_env (d := 15) hE15 ?_
                      clear hE17 hE16 hE3 hE4 hE5 hE6 hE7 hE15
                      refine tc_seq ?_; refine sr ?_; refine tlm ?_; refine tlm ?_; refine tv (o_len Try.underlying43 rfl) ?_; refine tv (o_lss rfl rfl) ?_; refine nq ?_; refine tc_cond rfl (fun h => ?_) (fun h => ?_)
                      · have hil : i < L.length := by first | omega | (simp at h; omega)
                        have hmem := getDr_mem hil
                        obtain ⟨z1, hz1⟩ : ∃ z, (L.getD (i) (0, [])).1 = z := ⟨_, rfl⟩
                        obtain ⟨z2, hz2⟩ : ∃ z, (L.getD (i) (0, [])).2.length = z := ⟨_, rfl⟩
                        have hrp := hQ.pos _ hmem
                        have hrk := hP.ok _ hmem
                        rw [hz1, hz2] at hrk
                        rw [hz2] at hrp
                        have hsb := sumL_le L (i + 1)
                        rw [sumL_take hil, hz2, hPs] at hsb
                        have hkd : ∀ j, j < z2 → kdF (laysK l 8) (z1 + j) = 1 := fun j hj => kd_one.2 (by have h9 := (hQ.kind _ hmem j (by omega)).1; rw [hz1] at h9; exact h9)
                        refine tc_skip ?_; refine q_then_n ?_; refine tc_seq ?_; refine tc_block ?_; refine tc_seq ?_; refine tc_seq ?_; refine tc_cut (fun ρ BB => ρ 183 = .bool false ∧ ρ 3 = .slice a25 1024 c25 ∧ ρ 4 = .pointer (some ⟨d25, 0, none⟩) ∧ ρ 5 = .pointer (some ⟨p25, 0, none⟩) ∧ ρ 6 = .pointer (some ⟨t25, 0, none⟩) ∧ ρ 7 = .pointer (some ⟨b31, 0, none⟩) ∧ ρ 15 = .slice a146 L.length c146 ∧ ρ 16 = .int .i64 ((sumL (L.take i) : Nat) : Int) ∧ ρ 17 = .int .i64 (i : Nat) ∧ Dr BB (F * pt b1 (cl [.slice ai mi ci, .slice pa n pc, .int .i64 x, .int .i64 y] 25) * Sl 1 (.slice a25 1024 c25) 1024 (bys (stI xs)) * TxA t25 p25 lg25 d25 mb25 128 576 M43 false (stD xs) * pt b31 (cl (bkc (laysK l 8)) 35) * Sl 2 (.slice a146 L.length c146) L.length (xcl (extX L)))) ?_ ?_
                        · skip
                          refine tc_regq mo (by kernel_rfl) ?_; refine ql_v rfl (o_move (by conv => lhs; whnf)) ?_; refine ql_v rfl (o_move (by conv => lhs; whnf)) ?_; refine ql_v rfl (o_ixP (j := i) (a := a146) Try.underlying43 sz46 rfl rfl hil (nn_rs (xs := xcl (extX L)) (by repeat (first | with_reducible exact rs_sl | with_reducible exact rs_pt0 | exact hi9 | exact hr | apply Rs.left)) (by rw [xcl_len, ext_len]; omega))) ?_; refine ql_v rfl (o_faP (a := a146) (m := 0) (o := 1) Try.underlying46 rfl rfl sz3 rfl (nn_rs (xs := xcl (extX L)) (by repeat (first | with_reducible exact rs_sl | with_reducible exact rs_pt0 | exact hi9 | exact hr | apply Rs.left)) (by rw [xcl_len, ext_len]; omega))) ?_; refine ql_v rfl (o_ldP (a := a146) (xs := xcl (extX L)) p3 rfl (by repeat (first | with_reducible exact rs_sl | with_reducible exact rs_pt0 | exact hi9 | exact hr | apply Rs.left)) (ext_at1 hil)) ?_; refine ql_env (d := 157) (v := .int .i64 (z2 : Nat)) (by show Value.int .i64 (((L.getD (i) (0, [])).2.length : Nat) : Int) = _; rw [hz2]) ?_; refine ql_v rfl (o_lss rfl rfl) ?_; refine ql_v rfl (o_move (by conv => lhs; whnf)) ?_; refine ql_bool (d := 159) rfl (fun h => ?_) (fun h => ?_)
                          · exfalso; simp at h; omega
                          · try simp only [lv1, lv2, lv3, lv4, lv5, lv6, Bool.not_true, Bool.not_false] at h
                            refine ql_v rfl (o_move (by conv => lhs; whnf)) ?_; refine ql_v rfl (o_gtr rfl rfl) ?_; refine ql_v rfl (o_move (by conv => lhs; whnf)) ?_; refine ql_bool (d := 162) rfl (fun h => ?_) (fun h => ?_)
                            · have g162 : 0 < i := by first | exact of_decide_eq_true h | (simp at h; omega)
                              have hgp := gap_at (i := i - 1) hQ (by omega)
                              rw [show i - 1 + 1 = i by omega, hz1] at hgp
                              refine ql_v rfl (o_move (by conv => lhs; whnf)) ?_; refine ql_v rfl (o_move (by conv => lhs; whnf)) ?_; refine ql_v rfl (o_ixP (j := i) (a := a146) Try.underlying43 sz46 rfl rfl hil (nn_rs (xs := xcl (extX L)) (by repeat (first | with_reducible exact rs_sl | with_reducible exact rs_pt0 | exact hi9 | exact hr | apply Rs.left)) (by rw [xcl_len, ext_len]; omega))) ?_; refine ql_v rfl (o_faP (a := a146) (m := 0) (o := 0) Try.underlying46 rfl rfl sz3 rfl (nn_rs (xs := xcl (extX L)) (by repeat (first | with_reducible exact rs_sl | with_reducible exact rs_pt0 | exact hi9 | exact hr | apply Rs.left)) (by rw [xcl_len, ext_len]; omega))) ?_; refine ql_v rfl (o_ldP (a := a146) (xs := xcl (extX L)) p3 rfl (by repeat (first | with_reducible exact rs_sl | with_reducible exact rs_pt0 | exact hi9 | exact hr | apply Rs.left)) (ext_at0 hil)) ?_; refine ql_env (d := 167) (v := .int .i64 (z1 : Nat)) (by show Value.int .i64 (((L.getD (i) (0, [])).1 : Nat) : Int) = _; rw [hz1]) ?_; refine ql_v rfl (o_move (by conv => lhs; whnf)) ?_; refine ql_v rfl (o_move (by conv => lhs; whnf)) ?_; refine ql_v rfl (by first | exact o_subI rfl rfl (by omega) | exact o_sub rfl rfl) ?_; refine ql_env (d := 170) (v := .int .i64 ((i - 1 : Nat) : Int)) (by first | rfl | exact congrArg (Value.int .i64) (by omega)) ?_
                              refine ql_v rfl (o_ixP (j := i - 1) (a := a146) Try.underlying43 sz46 rfl rfl (show i - 1 < L.length by omega) (nn_rs (xs := xcl (extX L)) (by repeat (first | with_reducible exact rs_sl | with_reducible exact rs_pt0 | exact hi9 | exact hr | apply Rs.left)) (by rw [xcl_len, ext_len]; omega))) ?_; refine ql_v rfl (o_faP (a := a146) (m := 0) (o := 0) Try.underlying46 rfl rfl sz3 rfl (nn_rs (xs := xcl (extX L)) (by repeat (first | with_reducible exact rs_sl | with_reducible exact rs_pt0 | exact hi9 | exact hr | apply Rs.left)) (by rw [xcl_len, ext_len]; omega))) ?_; refine ql_v rfl (o_ldP (a := a146) (xs := xcl (extX L)) p3 rfl (by repeat (first | with_reducible exact rs_sl | with_reducible exact rs_pt0 | exact hi9 | exact hr | apply Rs.left)) (ext_at0 (show i - 1 < L.length by omega))) ?_; refine ql_v rfl (o_move (by conv => lhs; whnf)) ?_; refine ql_v rfl (o_move (by conv => lhs; whnf)) ?_; refine ql_v rfl (by first | exact o_subI rfl rfl (by omega) | exact o_sub rfl rfl) ?_; refine ql_env (d := 176) (v := .int .i64 ((i - 1 : Nat) : Int)) (by first | rfl | exact congrArg (Value.int .i64) (by omega)) ?_; refine ql_v rfl (o_ixP (j := i - 1) (a := a146) Try.underlying43 sz46 rfl rfl (show i - 1 < L.length by omega) (nn_rs (xs := xcl (extX L)) (by repeat (first | with_reducible exact rs_sl | with_reducible exact rs_pt0 | exact hi9 | exact hr | apply Rs.left)) (by rw [xcl_len, ext_len]; omega))) ?_
                              refine ql_v rfl (o_faP (a := a146) (m := 0) (o := 1) Try.underlying46 rfl rfl sz3 rfl (nn_rs (xs := xcl (extX L)) (by repeat (first | with_reducible exact rs_sl | with_reducible exact rs_pt0 | exact hi9 | exact hr | apply Rs.left)) (by rw [xcl_len, ext_len]; omega))) ?_; refine ql_v rfl (o_ldP (a := a146) (xs := xcl (extX L)) p3 rfl (by repeat (first | with_reducible exact rs_sl | with_reducible exact rs_pt0 | exact hi9 | exact hr | apply Rs.left)) (ext_at1 (show i - 1 < L.length by omega))) ?_; refine ql_v rfl (o_addI rfl rfl (by omega)) ?_; refine ql_v rfl (o_leq rfl rfl) ?_; refine ql_env (d := 181) (v := .bool false) (by show Value.bool (decide _) = _; rw [decide_eq_false (by omega)]) ?_; refine ql_v rfl (o_pick_t rfl (by conv => lhs; whnf)) ?_; refine ql_v rfl (o_pick_f rfl (by conv => lhs; whnf)) ?_; refine ql_nil ?_; exact ⟨rfl, rfl, rfl, rfl, rfl, rfl, rfl, rfl, rfl, (by repeat (first | with_reducible exact dr_refl | apply dr_keep | apply dr_drop))⟩
                            · have g162 : ¬ (0 < i) := by first | exact of_decide_eq_false h | (have h2 := h; simp at h2; omega) | simpa using h
                              refine ql_skip rfl ?_; refine ql_skip rfl ?_; refine ql_skip rfl ?_; refine ql_skip rfl ?_; refine ql_skip rfl ?_; refine ql_skip rfl ?_; refine ql_skip rfl ?_; refine ql_skip rfl ?_; refine ql_skip rfl ?_; refine ql_skip rfl ?_; refine ql_skip rfl ?_; refine ql_skip rfl ?_; refine ql_skip rfl ?_; refine ql_skip rfl ?_; refine ql_skip rfl ?_; refine ql_skip rfl ?_; refine ql_skip rfl ?_; refine ql_skip rfl ?_; refine ql_skip rfl ?_; refine ql_v rfl (o_pick_f rfl (by conv => lhs; whnf)) ?_; refine ql_v rfl (o_pick_f rfl (by conv => lhs; whnf)) ?_; refine ql_nil ?_; exact ⟨rfl, rfl, rfl, rfl, rfl, rfl, rfl, rfl, rfl, (by repeat (first | with_reducible exact dr_refl | apply dr_keep | apply dr_drop))⟩
                        · intro ρ B hI
                          obtain ⟨hE183, hE3, hE4, hE5, hE6, hE7, hE15, hE16, hE17, hBA⟩ := hI
                          refine q_then_n ?_; refine tc_pre hBA.sat ?_
                          clear hBA
                          refine tc_env (d := 183) hE183 ?_; refine tc_env (d := 3) hE3 ?_; refine tc_env (d := 4) hE4 ?_; refine tc_env (d := 5) hE5 ?_; refine tc_env (d := 6) hE6 ?_; refine tc_env (d := 7) hE7 ?_; refine tc_env (d := 15) hE15 ?_; refine tc_env (d := 16) hE16 ?_; refine tc_env (d := 17) hE17 ?_
                          clear hE183 hE3 hE4 hE5 hE6 hE7 hE15 hE16 hE17
                          refine tc_cond rfl (fun h => ?_) (fun h => ?_)
                          · exfalso; simp at h
                          · try simp only [lv1, lv2, lv3, lv4, lv5, lv6, Bool.not_true, Bool.not_false] at h
                            refine tc_skip ?_; refine q_then_n ?_; refine sr ?_; refine tlm ?_; refine tlm ?_; refine tv (o_ixP (j := i) (a := a146) Try.underlying43 sz46 rfl rfl hil (nn_rs (xs := xcl (extX L)) (by repeat (first | with_reducible exact rs_sl | with_reducible exact rs_pt0 | exact hi9 | exact hr | apply Rs.left)) (by rw [xcl_len, ext_len]; omega))) ?_; refine tv (o_faP (a := a146) (m := 0) (o := 0) Try.underlying46 rfl rfl sz3 rfl (nn_rs (xs := xcl (extX L)) (by repeat (first | with_reducible exact rs_sl | with_reducible exact rs_pt0 | exact hi9 | exact hr | apply Rs.left)) (by rw [xcl_len, ext_len]; omega))) ?_; refine tv (o_ldP (a := a146) (xs := xcl (extX L)) p3 rfl (by repeat (first | with_reducible exact rs_sl | with_reducible exact rs_pt0 | exact hi9 | exact hr | apply Rs.left)) (ext_at0 hil)) ?_; refine tl_env (d := 188) (v := .int .i64 (z1 : Nat)) (by show Value.int .i64 (((L.getD (i) (0, [])).1 : Nat) : Int) = _; rw [hz1]) ?_; refine tla ?_; refine nq ?_; refine tc_block ?_; refine tc_loop (fun kk ρ BB => ∃ (j : Nat), (j ≤ z2) ∧ kk = z2 - j ∧ ρ 18 = .int .i64 ((z1 + j : Nat) : Int) ∧ ρ 16 = .int .i64 ((sumL (L.take i) + j : Nat) : Int) ∧ ρ 3 = .slice a25 1024 c25 ∧ ρ 4 = .pointer (some ⟨d25, 0, none⟩) ∧ ρ 5 = .pointer (some ⟨p25, 0, none⟩) ∧ ρ 6 = .pointer (some ⟨t25, 0, none⟩) ∧ ρ 7 = .pointer (some ⟨b31, 0, none⟩) ∧ ρ 15 = .slice a146 L.length c146 ∧ ρ 17 = .int .i64 (i : Nat) ∧ Dr BB (F * pt b1 (cl [.slice ai mi ci, .slice pa n pc, .int .i64 x, .int .i64 y] 25) * Sl 1 (.slice a25 1024 c25) 1024 (bys (stI xs)) * TxA t25 p25 lg25 d25 mb25 128 576 M43 false (stD xs) * pt b31 (cl (bkc (laysK l 8)) 35) * Sl 2 (.slice a146 L.length c146) L.length (xcl (extX L)))) (m := z2 - (0)) ?_ ?_
                            · exact ⟨0, by omega, rfl, rfl, rfl, rfl, rfl, rfl, rfl, rfl, rfl, rfl, (by repeat (first | with_reducible exact dr_refl | apply dr_keep | apply dr_drop))⟩
                            · intro k ρ B hI
                              obtain ⟨j, hr_0, hkk3, hE18, hE16, hE3, hE4, hE5, hE6, hE7, hE15, hE17, hBA⟩ := hI
                              refine tc_pre hBA.sat ?_
                              clear hBA
                              refine tc_env (d := 18) hE18 ?_; refine tc_env (d := 16) hE16 ?_; refine tc_env (d := 3) hE3 ?_; refine tc_env (d := 4) hE4 ?_; refine tc_env (d := 5) hE5 ?_; refine tc_env (d := 6) hE6 ?_; refine tc_env (d := 7) hE7 ?_; refine tc_env (d := 15) hE15 ?_; refine tc_env (d := 17) hE17 ?_
                              clear hE18 hE16 hE3 hE4 hE5 hE6 hE7 hE15 hE17
                              refine tc_seq ?_; refine tc_seq ?_; refine tc_regq mo (by kernel_rfl) ?_; refine ql_v rfl (o_move (by conv => lhs; whnf)) ?_; refine ql_v rfl (o_move (by conv => lhs; whnf)) ?_; refine ql_v rfl (o_move (by conv => lhs; whnf)) ?_; refine ql_v rfl (o_ixP (j := i) (a := a146) Try.underlying43 sz46 rfl rfl hil (nn_rs (xs := xcl (extX L)) (by repeat (first | with_reducible exact rs_sl | with_reducible exact rs_pt0 | exact hi9 | exact hr | apply Rs.left)) (by rw [xcl_len, ext_len]; omega))) ?_; refine ql_v rfl (o_faP (a := a146) (m := 0) (o := 0) Try.underlying46 rfl rfl sz3 rfl (nn_rs (xs := xcl (extX L)) (by repeat (first | with_reducible exact rs_sl | with_reducible exact rs_pt0 | exact hi9 | exact hr | apply Rs.left)) (by rw [xcl_len, ext_len]; omega))) ?_; refine ql_v rfl (o_ldP (a := a146) (xs := xcl (extX L)) p3 rfl (by repeat (first | with_reducible exact rs_sl | with_reducible exact rs_pt0 | exact hi9 | exact hr | apply Rs.left)) (ext_at0 hil)) ?_; refine ql_env (d := 194) (v := .int .i64 (z1 : Nat)) (by show Value.int .i64 (((L.getD (i) (0, [])).1 : Nat) : Int) = _; rw [hz1]) ?_; refine ql_v rfl (o_move (by conv => lhs; whnf)) ?_; refine ql_v rfl (o_move (by conv => lhs; whnf)) ?_
                              refine ql_v rfl (o_ixP (j := i) (a := a146) Try.underlying43 sz46 rfl rfl hil (nn_rs (xs := xcl (extX L)) (by repeat (first | with_reducible exact rs_sl | with_reducible exact rs_pt0 | exact hi9 | exact hr | apply Rs.left)) (by rw [xcl_len, ext_len]; omega))) ?_; refine ql_v rfl (o_faP (a := a146) (m := 0) (o := 1) Try.underlying46 rfl rfl sz3 rfl (nn_rs (xs := xcl (extX L)) (by repeat (first | with_reducible exact rs_sl | with_reducible exact rs_pt0 | exact hi9 | exact hr | apply Rs.left)) (by rw [xcl_len, ext_len]; omega))) ?_; refine ql_v rfl (o_ldP (a := a146) (xs := xcl (extX L)) p3 rfl (by repeat (first | with_reducible exact rs_sl | with_reducible exact rs_pt0 | exact hi9 | exact hr | apply Rs.left)) (ext_at1 hil)) ?_; refine ql_env (d := 199) (v := .int .i64 (z2 : Nat)) (by show Value.int .i64 (((L.getD (i) (0, [])).2.length : Nat) : Int) = _; rw [hz2]) ?_; refine ql_v rfl (o_addI rfl rfl (by omega)) ?_; refine ql_v rfl (o_lss rfl rfl) ?_; refine ql_nil ?_; refine q_then_n ?_; refine tc_cond rfl (fun h => ?_) (fun h => ?_)
                              · have hj : j < z2 := by first | omega | (simp at h; omega)
                                refine tc_skip ?_; refine q_then_n ?_; refine tc_seq ?_; refine tc_block ?_; refine tc_seq ?_; refine sr ?_; refine tlm ?_; refine tv (o_lss rfl rfl) ?_; refine tlm ?_; refine tl_bool (d := 206) rfl (fun h => ?_) (fun h => ?_)
                                · exfalso; first | (simp at h; done) | (simp at h; omega)
                                · try simp only [lv1, lv2, lv3, lv4, lv5, lv6, Bool.not_true, Bool.not_false] at h
                                  refine tlm ?_; refine tv (o_geq rfl rfl) ?_; refine tv (o_pick_f rfl (by conv => lhs; whnf)) ?_; refine tlm ?_; refine tl_bool (d := 210) rfl (fun h => ?_) (fun h => ?_)
                                  · exfalso; first | (simp at h; done) | (simp at h; omega)
                                  · try simp only [lv1, lv2, lv3, lv4, lv5, lv6, Bool.not_true, Bool.not_false] at h
                                    refine tlm ?_; refine tlm ?_; refine tv (o_nilCheck rfl) ?_; refine tv (o_fieldAddr (o := 0) Try.underlying35 rfl rfl sz32 rfl) ?_; refine tv (o_indexAddrAN1 (j := z1 + j) Try.underlying32 sz3 rfl rfl (by omega)) ?_; refine tl_env (d := 215) (v := .pointer (some ⟨b31, z1 + j, none⟩)) (by show Value.pointer (some ⟨b31, 0 + 0 + (z1 + j), none⟩) = _; simp only [Nat.zero_add]) ?_; refine tv (o_load p3 rfl (by repeat (first | with_reducible exact has_here | with_reducible exact has_pt | apply has_left)) (bkc_kat (by omega))) ?_; refine tl_env (d := 216) (v := .int .i64 1) (by show Value.int .i64 (kdF _ _) = _; rw [hkd j hj]) ?_; refine tv (o_nei rfl rfl) ?_; refine tv (o_pick_f rfl (by conv => lhs; whnf)) ?_; refine nq ?_; refine tc_cond rfl (fun h => ?_) (fun h => ?_)
                                    · exfalso; first | (simp at h; done) | (simp at h; omega)
                                    · try simp only [lv1, lv2, lv3, lv4, lv5, lv6, Bool.not_true, Bool.not_false] at h
                                      refine tc_skip ?_; refine q_then_n ?_; refine tc_reg ?_; refine tlm ?_; refine tv (by first | exact o_addI rfl rfl (by omega) | exact o_add rfl rfl) ?_; refine tla ?_; refine tl_nil ?_; refine q_block_n (q_then_n ?_); refine tc_reg ?_; refine tlm ?_; refine tv (by first | exact o_addI rfl rfl (by omega) | exact o_add rfl rfl) ?_; refine tla ?_; refine nq ?_; exact ⟨_, by omega, j + 1, by omega, rfl, rfl, by show Value.int .i64 (((sumL (L.take i) + j : Nat) : Int) + 1) = _; exact congrArg (Value.int .i64) (by omega), rfl, rfl, rfl, rfl, rfl, rfl, rfl, (by repeat (first | with_reducible exact dr_refl | apply dr_keep | apply dr_drop))⟩
                              · obtain rfl : j = z2 := by first | omega | (simp at h; omega)
                                refine tc_exit ?_; refine q_then_e (q_then_e (q_block_x (q_block_n (q_then_n ?_)))); refine tc_reg ?_; refine tlm ?_; refine tv (by first | exact o_addI rfl rfl (by omega) | exact o_add rfl rfl) ?_; refine tla ?_; refine nq ?_; exact ⟨_, by omega, i + 1, by omega, rfl, rfl, by show Value.int .i64 _ = _; rw [sumL_take hil, hz2], rfl, rfl, rfl, rfl, rfl, rfl, (by repeat (first | with_reducible exact dr_refl | apply dr_keep | apply dr_drop))⟩
                      · obtain rfl : i = L.length := by first | omega | (simp at h; omega)
                        refine tc_exit ?_; refine q_then_e (q_then_e (q_block_x (q_then_n ?_))); refine tc_seq ?_; refine sr ?_; refine tla ?_; refine nq ?_; refine tc_block ?_; refine tc_loop (fun kk ρ BB => ∃ (i : Nat), (i ≤ 1024) ∧ kk = 1024 - i ∧ ρ 19 = .int .i64 (i : Nat) ∧ ρ 16 = .int .i64 (((adrF 1024 false (laysK l 8)).length : Int) - ((adrF i false (laysK l 8)).length : Nat)) ∧ ρ 3 = .slice a25 1024 c25 ∧ ρ 4 = .pointer (some ⟨d25, 0, none⟩) ∧ ρ 5 = .pointer (some ⟨p25, 0, none⟩) ∧ ρ 6 = .pointer (some ⟨t25, 0, none⟩) ∧ ρ 7 = .pointer (some ⟨b31, 0, none⟩) ∧ Dr BB (F * pt b1 (cl [.slice ai mi ci, .slice pa n pc, .int .i64 x, .int .i64 y] 25) * Sl 1 (.slice a25 1024 c25) 1024 (bys (stI xs)) * TxA t25 p25 lg25 d25 mb25 128 576 M43 false (stD xs) * pt b31 (cl (bkc (laysK l 8)) 35))) (m := 1024 - (0)) ?_ ?_
                        · exact ⟨0, by omega, rfl, rfl, by show Value.int .i64 _ = _; rw [List.take_length, hPs, adr_zero]; simp, rfl, rfl, rfl, rfl, rfl, (by repeat (first | with_reducible exact dr_refl | apply dr_keep | apply dr_drop))⟩
                        · intro k ρ B hI
                          obtain ⟨i, hs_0, hkk4, hE19, hE16, hE3, hE4, hE5, hE6, hE7, hBA⟩ := hI
                          refine tc_pre hBA.sat ?_
                          clear hBA
                          refine tc_env (d := 19) hE19 ?_; refine tc_env (d := 16) hE16 ?_; refine tc_env (d := 3) hE3 ?_; refine tc_env (d := 4) hE4 ?_; refine tc_env (d := 5) hE5 ?_; refine tc_env (d := 6) hE6 ?_; refine tc_env (d := 7) hE7 ?_
                          clear hE19 hE16 hE3 hE4 hE5 hE6 hE7
                          refine tc_seq ?_; refine sr ?_; refine tlm ?_; refine tv (o_lss rfl rfl) ?_; refine nq ?_; refine tc_cond rfl (fun h => ?_) (fun h => ?_)
                          · have hi : i < 1024 := by first | omega | (simp at h; omega)
                            have hcn := adr_cnt i false (laysK l 8)
                            have had := adr_len i false (laysK l 8)
                            refine tc_skip ?_; refine q_then_n ?_; refine tc_seq ?_; refine tc_block ?_; refine sr ?_; refine tlm ?_; refine tlm ?_; refine tv (o_nilCheck rfl) ?_; refine tv (o_fieldAddr (o := 0) Try.underlying35 rfl rfl sz32 rfl) ?_; refine tv (o_indexAddrAN1 (j := i) Try.underlying32 sz3 rfl rfl hi) ?_; refine tl_env (d := 229) (v := .pointer (some ⟨b31, i, none⟩)) (by show Value.pointer (some ⟨b31, 0 + 0 + (i), none⟩) = _; simp only [Nat.zero_add]) ?_; refine tv (o_load p3 rfl (by repeat (first | with_reducible exact has_here | with_reducible exact has_pt | apply has_left)) (bkc_kat hi)) ?_; refine tv (o_eqi rfl rfl) ?_; refine nq ?_; refine tc_cut (fun ρ BB => ρ 16 = .int .i64 (((adrF 1024 false (laysK l 8)).length : Int) - ((adrF (i + 1) false (laysK l 8)).length : Nat)) ∧ ρ 3 = .slice a25 1024 c25 ∧ ρ 4 = .pointer (some ⟨d25, 0, none⟩) ∧ ρ 5 = .pointer (some ⟨p25, 0, none⟩) ∧ ρ 6 = .pointer (some ⟨t25, 0, none⟩) ∧ ρ 7 = .pointer (some ⟨b31, 0, none⟩) ∧ ρ 19 = .int .i64 (i : Nat) ∧ Dr BB (F * pt b1 (cl [.slice ai mi ci, .slice pa n pc, .int .i64 x, .int .i64 y] 25) * Sl 1 (.slice a25 1024 c25) 1024 (bys (stI xs)) * TxA t25 p25 lg25 d25 mb25 128 576 M43 false (stD xs) * pt b31 (cl (bkc (laysK l 8)) 35))) ?_ ?_
                            · skip
                              refine tc_cond rfl (fun h => ?_) (fun h => ?_)
                              · have hk1 : kdF (laysK l 8) i = 1 := by first | exact of_decide_eq_true h | simpa using h
                                rw [if_pos (kd_one.1 hk1)] at hcn
                                refine tc_reg ?_; refine tlm ?_; refine tv (o_subI rfl rfl (by omega)) ?_; refine tla ?_; refine tl_nil ?_; exact ⟨congrArg (Value.int .i64) (by rw [hcn]; omega), rfl, rfl, rfl, rfl, rfl, rfl, (by repeat (first | with_reducible exact dr_refl | apply dr_keep | apply dr_drop))⟩
                              · have hk1 : ¬ kdF (laysK l 8) i = 1 := by first | exact of_decide_eq_false h | simpa using h
                                rw [if_neg (fun e => hk1 (kd_one.2 e))] at hcn
                                refine tc_skip ?_; exact ⟨congrArg (Value.int .i64) (by rw [hcn]; omega), rfl, rfl, rfl, rfl, rfl, rfl, (by repeat (first | with_reducible exact dr_refl | apply dr_keep | apply dr_drop))⟩
                            · intro ρ B hI
                              obtain ⟨hE16, hE3, hE4, hE5, hE6, hE7, hE19, hBA⟩ := hI
                              refine q_block_n (q_then_n ?_); refine tc_pre hBA.sat ?_
                              clear hBA
                              refine tc_env (d := 16) hE16 ?_; refine tc_env (d := 3) hE3 ?_; refine tc_env (d := 4) hE4 ?_; refine tc_env (d := 5) hE5 ?_; refine tc_env (d := 6) hE6 ?_; refine tc_env (d := 7) hE7 ?_; refine tc_env (d := 19) hE19 ?_
                              clear hE16 hE3 hE4 hE5 hE6 hE7 hE19
                              refine tc_reg ?_; refine tlm ?_; refine tv (by first | exact o_addI rfl rfl (by omega) | exact o_add rfl rfl) ?_; refine tla ?_; refine nq ?_; exact ⟨_, by omega, i + 1, by omega, rfl, rfl, rfl, rfl, rfl, rfl, rfl, rfl, (by repeat (first | with_reducible exact dr_refl | apply dr_keep | apply dr_drop))⟩
                          · obtain rfl : i = 1024 := by first | omega | (simp at h; omega)
                            refine tc_exit ?_; refine q_then_e (q_then_e (q_block_x (q_then_n ?_))); refine sr ?_; refine tlm ?_; refine tl_c rfl (o_call bd12 rfl (Begin12_no (hc := txa_dev (by repeat (first | with_reducible exact ct_here | apply ct_left))) (hp := txa_p (by repeat (first | with_reducible exact ct_here | apply ct_left))) (hno := by rw [idl_open]; decide))) ?_; rintro _ _ ⟨rfl, rfl⟩; refine tl_env (d := 236) (v := .tuple #[.pointer none, .int .i64 3]) (by show Value.tuple #[.pointer none, .int .i64 (idlS _ _)] = _; rw [idl_open]) ?_; refine tlm ?_; refine tv (o_extract rfl rfl) ?_; refine tv (o_extract rfl rfl) ?_; refine tla ?_; refine tla ?_; refine nq ?_; refine sr ?_; refine tlm ?_; refine tv (o_eqi rfl rfl) ?_; refine tl_env (d := 240) (v := .bool true) (by show Value.bool (decide _) = _; rw [decide_eq_true (Int.sub_self _)]) ?_; refine tlm ?_; refine tl_bool (d := 241) rfl (fun h => ?_) (fun h => ?_)
                            · try simp only [lv1, lv2, lv3, lv4, lv5, lv6, Bool.not_true, Bool.not_false] at h
                              refine tlm ?_; refine tv (o_eqi rfl rfl) ?_; refine tv (o_pick_t rfl (by conv => lhs; whnf)) ?_; refine tlm ?_; refine tl_bool (d := 245) rfl (fun h => ?_) (fun h => ?_)
                              · try simp only [lv1, lv2, lv3, lv4, lv5, lv6, Bool.not_true, Bool.not_false] at h
                                refine tlm ?_; refine tl_c rfl (o_call bd13 rfl (Ops_c (hc := txa_dev (by repeat (first | with_reducible exact ct_here | apply ct_left))))) ?_; rintro _ _ ⟨rfl, rfl⟩; refine tl_env (d := 247) (v := .int .i64 0) (by show Value.int .i64 _ = _; rw [stD_ops]) ?_; refine tv (o_eqi rfl rfl) ?_; refine tv (o_pick_t rfl (by conv => lhs; whnf)) ?_; refine tlm ?_; refine tl_bool (d := 250) rfl (fun h => ?_) (fun h => ?_)
                                · try simp only [lv1, lv2, lv3, lv4, lv5, lv6, Bool.not_true, Bool.not_false] at h
                                  refine tlm ?_; refine tl_c rfl (o_call bd14 rfl (DropT_c)) ?_; rintro _ _ ⟨rfl, rfl⟩; refine tv (o_eqi rfl rfl) ?_; refine tv (o_pick_t rfl (by conv => lhs; whnf)) ?_; refine tlm ?_; refine tl_bool (d := 255) rfl (fun h => ?_) (fun h => ?_)
                                  · try simp only [lv1, lv2, lv3, lv4, lv5, lv6, Bool.not_true, Bool.not_false] at h
                                    refine tlm ?_; refine tl_c rfl (o_call bd15 rfl (image_w (s := stD xs) (stI xs) hls him (hc := txa_dev (by repeat (first | with_reducible exact ct_here | apply ct_left))))) ?_; rintro _ _ ⟨a257, c257, rfl, hc257, rfl⟩; refine tlm ?_; refine tl_c rfl (o_call bd10 rfl (EqBytes_c (xs := stI xs) (ys := stI xs) (h1 := (by repeat (first | with_reducible exact rs_sl | with_reducible exact rs_pt0 | exact hi9 | exact hr | apply Rs.left))) (h2 := (by repeat (first | with_reducible exact rs_sl | with_reducible exact rs_pt0 | exact hi9 | exact hr | apply Rs.left))) (hx := hsi) (hy := hsi))) ?_; rintro _ _ ⟨rfl, rfl⟩; refine tl_env (d := 259) (v := .bool true) (by show Value.bool (decide _) = _; rw [decide_eq_true rfl]) ?_; refine tv (o_pick_t rfl (by conv => lhs; whnf)) ?_; refine tlm ?_; refine tl_bool (d := 261) rfl (fun h => ?_) (fun h => ?_)
                                    · try simp only [lv1, lv2, lv3, lv4, lv5, lv6, Bool.not_true, Bool.not_false] at h
                                      refine tlm ?_; refine tl_c rfl (o_call bd13 rfl (Ops_c (hc := txa_dev (by repeat (first | with_reducible exact ct_here | apply ct_left))))) ?_; rintro _ _ ⟨rfl, rfl⟩; refine tl_env (d := 263) (v := .int .i64 0) (by show Value.int .i64 _ = _; rw [stD_ops]) ?_; refine tv (o_eqi rfl rfl) ?_; refine tv (o_pick_t rfl (by conv => lhs; whnf)) ?_; refine tlm ?_; refine tl_bool (d := 266) rfl (fun h => ?_) (fun h => ?_)
                                      · try simp only [lv1, lv2, lv3, lv4, lv5, lv6, Bool.not_true, Bool.not_false] at h
                                        refine tlm ?_; refine tl_c rfl (o_call bd16 rfl (State12_c (hc := txa_dev (by repeat (first | with_reducible exact ct_here | apply ct_left))) (hp := txa_p (by repeat (first | with_reducible exact ct_here | apply ct_left))) (hl := by (repeat (first | assumption | with_reducible exact has_here | with_reducible exact has_pt | apply has_left))) (hlw := lw12 hls))) ?_; rintro _ _ ⟨rfl, rfl⟩; refine tl_env (d := 268) (v := .int .i64 0) (by show Value.int .i64 (stpS _ _ _) = _; rw [hst]) ?_; refine tv (o_eqi rfl rfl) ?_; refine tv (o_pick_t rfl (by conv => lhs; whnf)) ?_; refine tla ?_; refine nq ?_; refine tc_ret ?_; exact ⟨.bool true, F, res1 rfl rfl, Dr.sat (by repeat (first | with_reducible exact dr_refl | apply dr_keep | apply dr_drop)), rfl, rfl⟩
                                      · exfalso; simp at h
                                    · exfalso; simp at h
                                  · exfalso; simp at h
                                · exfalso; simp at h
                              · exfalso; simp at h
                            · exfalso; simp at h
end Go.Vl

namespace Go.Vl
open Go Go.Proofs
theorem three_ofG {α : Type} : ∀ {l : List α}, l.length = 3 → ∃ a b c, l = [a, b, c]
  | [a, b, c], _ => ⟨a, b, c, rfl⟩
set_option maxRecDepth 20000 in
theorem rdb_pu (W : World) : Rdb Try.prog W 62 (fun cs (x : Pu12) => cs = x.cells ∧ PuW (old W) x) := fun H enc sp hd fu cs d pl h hw => by
  obtain ⟨hl, hf⟩ := rdb_fields Try.underlying62 h hw
  have hc : Try.prog.cellsOf 62 = 3 := by kernel_rfl
  have hci : Try.prog.cellsOf 3 = 1 := by kernel_rfl
  have hcb : Try.prog.cellsOf 22 = 1 := by kernel_rfl
  have hcl : Try.prog.cellsOf 4 = 1 := by kernel_rfl
  rw [hc] at hl
  obtain ⟨q, e0, w0⟩ := hf 0 _ rfl (rdb_int Try.underlying3)
  obtain ⟨b, a, c, e1, g1, g2, g3, g4⟩ := hf 1 _ rfl (rdb_bys Try.underlying22 Try.underlying5 (by kernel_rfl) (by kernel_rfl))
  obtain ⟨fr, e2⟩ := hf 2 _ rfl (rdb_bool Try.underlying4)
  obtain ⟨c0, c1, c2, rfl⟩ := three_ofG hl
  simp [hci] at e0
  simp [hcb] at e1
  simp [PBool, hcl] at e2
  subst e0 e1 e2
  exact ⟨⟨q, a, c, b, fr⟩, rfl, i64_wf w0, g1, g3, g4⟩
def PPus (A : SP) (cs : List Value) (l : List Pu12) : Prop := ∃ a c, cs = [.slice a l.length c] ∧ l.length ≤ c ∧ Rs A a (ptl l) ∧ ∀ x ∈ l, PuW A x
theorem rdb_pus (W : World) : Rdb Try.prog W 23 (PPus (old W)) :=
  (rdb_slice (k := 3) (b := 40) Try.underlying23 (by kernel_rfl) (by kernel_rfl) (by decide) (rdb_pu W)).mono fun cs xs ⟨a, cap, Cs, e1, hc, hs, hl, hx, hr⟩ => by
    refine ⟨xs, ⟨a, cap, e1, hc, ?_, fun x hx' => ?_⟩⟩
    · rw [show ptl xs = Cs.flatten from (flatG hl (fun i h h' => (hx i h h').2.1)).symm]; exact hr
    · obtain ⟨i, hi, rfl⟩ := List.mem_iff_getElem.1 hx'
      exact (hx i hi (by omega)).2.2
/-- A look. -/
structure Lk12 where
  im : List Nat
  pu : List Pu12
  x : Int
  y : Int
def PLk (A : SP) (cs : List Value) (t : Lk12) : Prop := ∃ v1 v2, cs = [v1, v2, .int .i64 t.x, .int .i64 t.y] ∧ PBys A [v1] t.im ∧ PPus A [v2] t.pu ∧ (-9223372036854775808 ≤ t.x ∧ t.x ≤ 9223372036854775807) ∧ (-9223372036854775808 ≤ t.y ∧ t.y ≤ 9223372036854775807)
set_option maxRecDepth 20000 in
theorem rdb_look (W : World) : Rdb Try.prog W 25 (PLk (old W)) := fun H enc sp hd fu cs d pl h hw => by
  obtain ⟨hl, hf⟩ := rdb_fields Try.underlying25 h hw
  have hc : Try.prog.cellsOf 25 = 4 := by kernel_rfl
  have hc0 : Try.prog.cellsOf 22 = 1 := by kernel_rfl
  have hc1 : Try.prog.cellsOf 23 = 1 := by kernel_rfl
  have hci : Try.prog.cellsOf 3 = 1 := by kernel_rfl
  rw [hc] at hl
  obtain ⟨im, e0⟩ := hf 0 _ rfl (rdb_bys Try.underlying22 Try.underlying5 (by kernel_rfl) (by kernel_rfl))
  obtain ⟨pu, e1⟩ := hf 1 _ rfl (rdb_pus W)
  obtain ⟨x, e2, w2⟩ := hf 2 _ rfl (rdb_int Try.underlying3)
  obtain ⟨y, e3, w3⟩ := hf 3 _ rfl (rdb_int Try.underlying3)
  obtain ⟨c0, c1, c2, c3, rfl⟩ := four_ofG hl
  simp [hc0] at e0
  simp [hc1] at e1
  simp [hci] at e2
  simp [hci] at e3
  subst e2 e3
  exact ⟨⟨im, pu, x, y⟩, c0, c1, rfl, e0, e1, i64_wf w2, i64_wf w3⟩
theorem TxnUnseen_L (F : SP) (cs : Array Value) (t : Lk12) (h : PLk F cs.toList t) : Fn Try.prog 3 #[.agg cs] F (fun r B => r = .bool true ∧ B = F) := by
  obtain ⟨u0, u1, e, ⟨a, c, e0, _, hs, hr, hb⟩, ⟨a1, c1, e1, _, hr1, hw1⟩, hx, hy⟩ := h
  simp only [List.cons.injEq, and_true] at e0 e1
  subst e0 e1
  obtain rfl : cs = #[.slice a t.im.length c, .slice a1 t.pu.length c1, .int .i64 t.x, .int .i64 t.y] := Array.ext' e
  exact TxnUnseen_f F hr rfl hb hs hr1 rfl hw1 hx hy
end Go.Vl
