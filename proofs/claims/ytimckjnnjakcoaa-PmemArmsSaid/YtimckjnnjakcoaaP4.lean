/- vellumlaw08: PmemStores. Conditions: none. -/
import Derived.Test.YtimckjnnjakcoaaP3
set_option linter.unusedVariables false
set_option linter.unusedSimpArgs false
namespace Go.Vl
open Go Go.Proofs


theorem wi_val {p : Int} : (Value.int .i64 (p % 4)) = .int .i64 ((wi p 4 : Nat) : Int) := by
  have := wi_cast (p := p) (n := 4) (by decide)
  rw [← this]; rfl
theorem sto_no {p : Int} {b : List Nat} {s s2 : DevS} {e : Int} (h : sto p b s = (e, s2)) (hoff : s.off = false) (hno : p < 0 ∨ (s.ls.length : Int) * 64 < p ∨ (s.ls.length : Int) * 64 - p < b.length) : e = 6 ∧ s2 = s := by
  have hr : rdy s.ls.length s.off p b.length = 6 := by unfold rdy; rw [hoff, if_neg (by decide), if_pos (by omega)]
  unfold sto at h
  rw [hr, if_pos (by decide)] at h
  simp only [Prod.mk.injEq] at h
  exact ⟨h.1.symm, h.2.symm⟩
theorem sto_yes {q : Nat} {b : List Nat} {s s2 : DevS} {e : Int} (h : sto (q : Int) b s = (e, s2)) (hw : WfD s) (hL : Live s) (hb : ∀ x ∈ b, x < 256) (hroom : Room b.length s) (hp : q + b.length ≤ s.ls.length * 64) (hops : 0 ≤ s.ops ∧ s.ops + b.length < 9223372036854775807) :
    e = 0 ∧ imgS s2 = spl (imgS s) q b ∧ s2.ops = s.ops + cw q b.length ∧ Live s2 ∧ WfD s2 ∧ s2.ls.length = s.ls.length := by
  have hr : rdy s.ls.length s.off q b.length = 0 := by unfold rdy; rw [hL.off, if_neg (by decide), if_neg (by omega)]
  unfold sto at h
  rw [hr, if_neg (by decide), Int.toNat_natCast] at h
  have := storeF_img b.length rfl hw hL hb hroom hp hops
  rw [h] at this
  exact this
theorem room_from {n m : Nat} {xs : List Nat} (h : m ≤ 4194304) : Room m (fromS n xs) := fun l hl => by
  obtain ⟨j, hj, rfl⟩ := List.mem_iff_getElem.1 hl
  simp only [fromS, List.getElem_mapIdx, lineF, List.length_singleton]; omega
theorem cw_le (p m : Nat) : cw p m ≤ m := by unfold cw; split <;> omega
theorem spl_mid {l b : List Nat} {p : Nat} (h : p + b.length ≤ l.length) : ((spl l p b).drop p).take b.length = b := by
  apply List.ext_getElem?
  intro i
  rw [List.getElem?_take]
  split
  · rw [List.getElem?_drop, spl_at h, if_pos (by omega)]; congr 1; omega
  · rw [List.getElem?_eq_none (by omega)]

set_option maxRecDepth 20000 in
set_option maxHeartbeats 1000000 in
theorem PmemStoresW_f (F : SP) (lines at_ : Int) (a : Option Addr) (c m n : Nat) (b : List Nat) (hn : n = 1 + wi lines 4) (hr : Rs F a (bys b)) (hm : b.length = m) (hb : ∀ x ∈ b, x < 256) (hl : m ≤ 140737488351232) (hp : -9223372036854775808 ≤ at_ ∧ at_ ≤ 9223372036854775807) :
    Fn Try.prog 7 #[.int .i64 lines, .int .i64 at_, .slice a m c] (F) (fun r B => r = .bool true ∧ B = F) := by
  have hE := @fn_enterW Try.prog 7 Try.f7 _ [.int .i64 lines, .int .i64 at_, .slice a m c] (F) (fun r B => r = .bool true ∧ B = F) _ Try.func7 rfl Try.ntmps7 (by simp)
  refine hE ?_
  clear hE
  have hwi := wi_lt (p := lines) (show 0 < 4 by omega)
  have hn1 : 0 < n := by omega
  have hn4 : n ≤ 4 := by omega
  refine tc_seq ?_
  refine tc_reg ?_
  refine tl_v rfl (o_assign (by conv => lhs; whnf)) ?_
  refine tl_nil ?_
  refine q_then_n ?_
  refine tc_seq ?_
  refine tc_seq ?_
  refine tc_reg ?_
  refine tl_c rfl (o_call bd25 rfl (awake_c)) ?_
  rintro _ _ ⟨rfl, rfl⟩
  refine tl_v rfl (o_not rfl) ?_
  refine tl_nil ?_
  refine q_then_n ?_
  refine tc_cond rfl (fun h => ?_) (fun h => ?_)
  · (exfalso; first | (revert h; simp; done) | (revert h; simp; omega) | (simp at h; omega) | omega)
  · try simp only [decide_eq_true_eq, decide_eq_false_iff_not, Bool.not_eq_true', Bool.not_eq_false', Option.isNone_some, Option.isNone_none, Bool.not_true, Bool.not_false] at h
    refine tc_skip ?_
    refine q_then_n ?_
    refine tc_seq ?_
    refine tc_reg ?_
    refine tl_v rfl (o_move (by conv => lhs; whnf)) ?_
    refine tl_c rfl (o_call bd37 rfl (within_c)) ?_
    rintro _ _ ⟨rfl, rfl⟩
    refine tl_env (d := 19) (v := .int .i64 ((wi lines 4 : Nat) : Int)) (wi_val) ?_
    refine tl_v rfl (by first | exact o_addI rfl rfl (by omega) | exact o_add rfl rfl) ?_
    refine tl_v rfl (by first | exact o_mulI rfl rfl (by omega) | exact o_mul rfl rfl) ?_
    refine tl_env (d := 21) (v := .int .i64 ((64 * n : Nat) : Int)) (by rw [hn]; rfl) ?_
    refine tl_v rfl (o_assign (by conv => lhs; whnf)) ?_
    refine tl_nil ?_
    refine q_then_n ?_
    refine tc_seq ?_
    refine tc_reg ?_
    refine tl_v rfl (o_assign (by conv => lhs; whnf)) ?_
    refine tl_nil ?_
    refine q_then_n ?_
    refine tc_seq ?_
    refine tc_seq ?_
    refine tc_reg ?_
    refine tl_v rfl (o_assign (by conv => lhs; whnf)) ?_
    refine tl_nil ?_
    refine q_then_n ?_
    refine tc_block ?_
    refine tc_pre (fun _ _ h => sl_nil (k := 1) h) ?_
    refine tc_loop (fun kk ρ BB => ∃ (i : Nat) (a8 : Option Addr) (c8 : Nat), (i ≤ 64 * n) ∧ kk = 64 * n - i ∧ ρ 8 = .slice a8 i c8 ∧ ρ 9 = .int .i64 (i : Nat) ∧ ρ 1 = .int .i64 at_ ∧ ρ 2 = .slice a m c ∧ ρ 7 = .int .i64 ((64 * n : Nat) : Int) ∧ BB = F * Sl 1 (.slice a8 i c8) i (bys (im i))) (m := 64 * n - (0)) ?_ ?_
    · exact ⟨0, none, 0, by omega, rfl, rfl, rfl, rfl, rfl, rfl, rfl⟩
    · intro k ρ B hI
      obtain ⟨i, a8, c8, hp0, hkk1, hE8, hE9, hE1, hE2, hE7, rfl⟩ := hI
      refine tc_env (d := 8) hE8 ?_
      refine tc_env (d := 9) hE9 ?_
      refine tc_env (d := 1) hE1 ?_
      refine tc_env (d := 2) hE2 ?_
      refine tc_env (d := 7) hE7 ?_
      clear hE8 hE9 hE1 hE2 hE7
      refine tc_seq ?_
      refine tc_seq ?_
      refine tc_reg ?_
      refine tl_v rfl (o_move (by conv => lhs; whnf)) ?_
      refine tl_v rfl (o_move (by conv => lhs; whnf)) ?_
      refine tl_v rfl (o_lss rfl rfl) ?_
      refine tl_nil ?_
      refine q_then_n ?_
      refine tc_cond rfl (fun h => ?_) (fun h => ?_)
      · try simp only [decide_eq_true_eq, decide_eq_false_iff_not, Bool.not_eq_true', Bool.not_eq_false', Option.isNone_some, Option.isNone_none, Bool.not_true, Bool.not_false] at h
        refine tc_skip ?_
        refine q_then_n ?_
        refine tc_seq ?_
        refine tc_block ?_
        refine tc_reg ?_
        refine tl_v rfl (o_move (by conv => lhs; whnf)) ?_
        refine tl_v rfl (o_move (by conv => lhs; whnf)) ?_
        refine tl_v rfl (by first | exact o_addI rfl rfl (by omega) | exact o_add rfl rfl) ?_
        refine tl_env (d := 29) (v := .int .i64 ((i + 1 : Nat) : Int)) (rfl) ?_
        refine tl_v rfl (by first | exact o_conv8 Try.underlying3 Try.underlying5 rfl | exact o_conv Try.underlying3 Try.underlying5 rfl) ?_
        refine tl_x rfl (o_buildSlice1 Try.underlying28 sz5 z5 rfl rfl) ?_
        rintro _ _ ⟨b31, rfl, rfl⟩
        refine tl_x rfl (o_apB Try.underlying28 Try.underlying28 sz5 by5 z5 rfl (by decide) (by decide) rfl rfl rfl (by repeat (first | with_reducible exact ct_here | apply ct_left)) rfl (by first | exact bys_all _ | exact ints_all _ | exact wds_all _ | exact bos_all _ | rfl) (by first | omega | (simp only [bys_length, ints_length, wds_length, bos_length, List.length_append, List.length_take, List.length_drop, List.length_singleton]; omega)) (by first | exact bys_sn _ _ | exact ints_sn _ _ | exact wds_sn _ _ | exact bos_sn _ _ | exact (bys_append _ _).symm | rfl)) ?_
        rintro _ _ ⟨a32, c32, rfl, hc32, rfl⟩
        refine tl_v rfl (o_assign (by conv => lhs; whnf)) ?_
        refine tl_nil ?_
        refine q_block_n (q_then_n ?_)
        refine tc_reg ?_
        refine tl_v rfl (o_move (by conv => lhs; whnf)) ?_
        refine tl_v rfl (by first | exact o_addI rfl rfl (by omega) | exact o_add rfl rfl) ?_
        refine tl_v rfl (o_assign (by conv => lhs; whnf)) ?_
        refine tl_nil ?_
        refine q_then_n ?_
        exact ⟨_, by omega, i + 1, _, _, by omega, rfl, rfl, rfl, rfl, rfl, rfl, by rw [im_succ]⟩
      · try simp only [decide_eq_true_eq, decide_eq_false_iff_not, Bool.not_eq_true', Bool.not_eq_false', Option.isNone_some, Option.isNone_none, Bool.not_true, Bool.not_false] at h
        refine tc_exit ?_
        refine q_then_e (q_then_e (q_block_x (q_then_n ?_)))
        refine tc_seq ?_
        refine tc_reg ?_
        refine tl_v rfl (o_move (by conv => lhs; whnf)) ?_
        obtain rfl : i = 64 * n := by omega
        refine tl_have (fun _ _ h => ct_cap (by repeat (first | with_reducible exact ct_here | apply ct_left)) h) fun hc8 => ?_
        refine tl_c rfl (o_call bd39 rfl (CopyBytes_c (xs := im (64 * n)) (hm := im_length _))) ?_
        rintro _ _ ⟨a35, c35, rfl, hc35, rfl⟩
        refine tl_c rfl (o_call bd42 rfl (From_c (n := n) (xs := im (64 * n)) (hx := im_length _) (hb := im_bytes _))) ?_
        rintro _ _ ⟨d36, rfl, rfl⟩
        have hw0 := fromS_wf (n := n) hn1 (by omega) (im_bytes (64 * n))
        have hL0 : Live (fromS n (im (64 * n))) := ⟨rfl, rfl⟩
        have hl0 : (fromS n (im (64 * n))).ls.length = n := by simp [fromS, newS]
        have hi0 : imgS (fromS n (im (64 * n))) = im (64 * n) := img_from (im_bytes _) (by rw [im_length]; omega)
        refine tl_v rfl (o_move (by conv => lhs; whnf)) ?_
        refine tl_v rfl (o_extract rfl rfl) ?_
        refine tl_v rfl (o_extract rfl rfl) ?_
        refine tl_v rfl (o_assign (by conv => lhs; whnf)) ?_
        refine tl_v rfl (o_assign (by conv => lhs; whnf)) ?_
        refine tl_nil ?_
        refine q_then_n ?_
        refine tc_seq ?_
        refine tc_seq ?_
        refine tc_reg ?_
        refine tl_v rfl (o_move (by conv => lhs; whnf)) ?_
        refine tl_v rfl (o_nei rfl rfl) ?_
        refine tl_v rfl (o_move (by conv => lhs; whnf)) ?_
        refine tl_bool (d := 41) rfl (fun h => ?_) (fun h => ?_)
        · (exfalso; first | (revert h; simp; done) | (revert h; simp; omega) | (simp at h; omega) | omega)
        · try simp only [decide_eq_true_eq, decide_eq_false_iff_not, Bool.not_eq_true', Bool.not_eq_false', Option.isNone_some, Option.isNone_none, Bool.not_true, Bool.not_false] at h
          refine tl_v rfl (o_move (by conv => lhs; whnf)) ?_
          refine tl_v rfl (o_eqp Try.underlying41 rfl rfl) ?_
          refine tl_v rfl (o_pick_f rfl (by conv => lhs; whnf)) ?_
          refine tl_nil ?_
          refine q_then_n ?_
          refine tc_cond rfl (fun h => ?_) (fun h => ?_)
          · (exfalso; first | (revert h; simp; done) | (revert h; simp; omega) | (simp at h; omega) | omega)
          · try simp only [decide_eq_true_eq, decide_eq_false_iff_not, Bool.not_eq_true', Bool.not_eq_false', Option.isNone_some, Option.isNone_none, Bool.not_true, Bool.not_false] at h
            refine tc_skip ?_
            refine q_then_n ?_
            refine tc_seq ?_
            refine tc_reg ?_
            refine tl_v rfl (o_move (by conv => lhs; whnf)) ?_
            refine tl_v rfl (o_move (by conv => lhs; whnf)) ?_
            refine tl_v rfl (o_move (by conv => lhs; whnf)) ?_
            refine tl_c rfl (o_call bd39 rfl (CopyBytes_c (xs := b))) ?_
            rintro _ _ ⟨a48, c48, rfl, hc48, rfl⟩
            refine tl_c rfl (o_call bd43 rfl (Store_c (xs := b) (hroom := fun h => by have := rdy0 h; rw [hl0] at this; exact room_from (by omega)))) ?_
            rintro _ _ ⟨e49, s49, hs49, rfl, rfl⟩
            have hno := sto_no hs49 rfl
            rw [hl0, hm] at hno
            refine tl_v rfl (o_assign (by conv => lhs; whnf)) ?_
            refine tl_nil ?_
            refine q_then_n ?_
            refine tc_seq ?_
            refine tc_seq ?_
            refine tc_reg ?_
            refine tl_v rfl (o_move (by conv => lhs; whnf)) ?_
            refine tl_v rfl (o_lss rfl rfl) ?_
            refine tl_v rfl (o_move (by conv => lhs; whnf)) ?_
            refine tl_bool (d := 52) rfl (fun h => ?_) (fun h => ?_)
            · try simp only [decide_eq_true_eq, decide_eq_false_iff_not, Bool.not_eq_true', Bool.not_eq_false', Option.isNone_some, Option.isNone_none, Bool.not_true, Bool.not_false] at h
              refine tl_skip rfl ?_
              refine tl_skip rfl ?_
              refine tl_skip rfl ?_
              refine tl_v rfl (o_pick_t rfl (by conv => lhs; whnf)) ?_
              refine tl_v rfl (o_move (by conv => lhs; whnf)) ?_
              refine tl_skip rfl ?_
              refine tl_skip rfl ?_
              refine tl_skip rfl ?_
              refine tl_skip rfl ?_
              refine tl_skip rfl ?_
              refine tl_skip rfl ?_
              refine tl_v rfl (o_pick_t rfl (by conv => lhs; whnf)) ?_
              refine tl_nil ?_
              refine q_then_n ?_
              refine tc_cond_t rfl ?_
              refine tc_seq ?_
              refine tc_reg ?_
              refine tl_v rfl (o_move (by conv => lhs; whnf)) ?_
              obtain ⟨he, hse⟩ := hno (by omega)
              have hse1 : s49.ops = 0 := by rw [hse]; rfl
              have hse2 : imgS s49 = im (64 * n) := by rw [hse, hi0]
              have hse3 : s49.ls.length = n := by rw [hse, hl0]
              refine tl_v rfl (o_eqi rfl rfl) ?_
              refine tl_v rfl (o_move (by conv => lhs; whnf)) ?_
              refine tl_bool (d := 67) rfl (fun h => ?_) (fun h => ?_)
              · try simp only [decide_eq_true_eq, decide_eq_false_iff_not, Bool.not_eq_true', Bool.not_eq_false', Option.isNone_some, Option.isNone_none, Bool.not_true, Bool.not_false] at h
                refine tl_v rfl (o_move (by conv => lhs; whnf)) ?_
                refine tl_c rfl (o_call bd41 rfl (Ops_c)) ?_
                rintro _ _ ⟨rfl, rfl⟩
                refine tl_v rfl (o_eqi rfl rfl) ?_
                refine tl_v rfl (o_pick_t rfl (by conv => lhs; whnf)) ?_
                refine tl_v rfl (o_move (by conv => lhs; whnf)) ?_
                refine tl_bool (d := 72) rfl (fun h => ?_) (fun h => ?_)
                · try simp only [decide_eq_true_eq, decide_eq_false_iff_not, Bool.not_eq_true', Bool.not_eq_false', Option.isNone_some, Option.isNone_none, Bool.not_true, Bool.not_false] at h
                  refine tl_v rfl (o_move (by conv => lhs; whnf)) ?_
                  refine tl_c rfl (o_call bd33 rfl (Image_c)) ?_
                  rintro _ _ ⟨a74, c74, rfl, hc74, rfl⟩
                  refine tl_v rfl (o_move (by conv => lhs; whnf)) ?_
                  refine tl_c rfl (o_call bd22 rfl (EqBytes_c (xs := imgS s49) (ys := im (64 * n)) (hx := by rw [hse2, im_length, hse3]; omega) (hy := im_length _))) ?_
                  rintro _ _ ⟨rfl, rfl⟩
                  refine tl_v rfl (o_pick_t rfl (by conv => lhs; whnf)) ?_
                  refine tl_v rfl (o_assign (by conv => lhs; whnf)) ?_
                  refine tl_nil ?_
                  refine q_then_n ?_
                  refine tc_ret ?_
                  refine q_then_r ?_
                  first
                  | exact ⟨.bool (decide (imgS s49 = im (64 * n))), F, res1 rfl rfl, Dr.sat (by repeat (first | with_reducible exact dr_refl | apply dr_keep | apply dr_drop)), by rw [decide_eq_true hse2], rfl⟩
                  | exact ⟨.bool (decide (imgS s49 = spl (im (64 * n)) q b)), F, res1 rfl rfl, Dr.sat (by repeat (first | with_reducible exact dr_refl | apply dr_keep | apply dr_drop)), by rw [hs1, hi0, decide_eq_true rfl], rfl⟩
                · exfalso; simp [hse1] at h
              · exfalso; simp [he] at h
            · try simp only [decide_eq_true_eq, decide_eq_false_iff_not, Bool.not_eq_true', Bool.not_eq_false', Option.isNone_some, Option.isNone_none, Bool.not_true, Bool.not_false] at h
              refine tl_v rfl (o_move (by conv => lhs; whnf)) ?_
              refine tl_v rfl (o_move (by conv => lhs; whnf)) ?_
              refine tl_v rfl (o_gtr rfl rfl) ?_
              refine tl_v rfl (o_pick_f rfl (by conv => lhs; whnf)) ?_
              refine tl_v rfl (o_move (by conv => lhs; whnf)) ?_
              refine tl_bool (d := 57) rfl (fun h => ?_) (fun h => ?_)
              · try simp only [decide_eq_true_eq, decide_eq_false_iff_not, Bool.not_eq_true', Bool.not_eq_false', Option.isNone_some, Option.isNone_none, Bool.not_true, Bool.not_false] at h
                refine tl_skip rfl ?_
                refine tl_skip rfl ?_
                refine tl_skip rfl ?_
                refine tl_skip rfl ?_
                refine tl_skip rfl ?_
                refine tl_skip rfl ?_
                refine tl_v rfl (o_pick_t rfl (by conv => lhs; whnf)) ?_
                refine tl_nil ?_
                refine q_then_n ?_
                refine tc_cond_t rfl ?_
                refine tc_seq ?_
                refine tc_reg ?_
                refine tl_v rfl (o_move (by conv => lhs; whnf)) ?_
                obtain ⟨he, hse⟩ := hno (by omega)
                have hse1 : s49.ops = 0 := by rw [hse]; rfl
                have hse2 : imgS s49 = im (64 * n) := by rw [hse, hi0]
                have hse3 : s49.ls.length = n := by rw [hse, hl0]
                refine tl_v rfl (o_eqi rfl rfl) ?_
                refine tl_v rfl (o_move (by conv => lhs; whnf)) ?_
                refine tl_bool (d := 67) rfl (fun h => ?_) (fun h => ?_)
                · try simp only [decide_eq_true_eq, decide_eq_false_iff_not, Bool.not_eq_true', Bool.not_eq_false', Option.isNone_some, Option.isNone_none, Bool.not_true, Bool.not_false] at h
                  refine tl_v rfl (o_move (by conv => lhs; whnf)) ?_
                  refine tl_c rfl (o_call bd41 rfl (Ops_c)) ?_
                  rintro _ _ ⟨rfl, rfl⟩
                  refine tl_v rfl (o_eqi rfl rfl) ?_
                  refine tl_v rfl (o_pick_t rfl (by conv => lhs; whnf)) ?_
                  refine tl_v rfl (o_move (by conv => lhs; whnf)) ?_
                  refine tl_bool (d := 72) rfl (fun h => ?_) (fun h => ?_)
                  · try simp only [decide_eq_true_eq, decide_eq_false_iff_not, Bool.not_eq_true', Bool.not_eq_false', Option.isNone_some, Option.isNone_none, Bool.not_true, Bool.not_false] at h
                    refine tl_v rfl (o_move (by conv => lhs; whnf)) ?_
                    refine tl_c rfl (o_call bd33 rfl (Image_c)) ?_
                    rintro _ _ ⟨a74, c74, rfl, hc74, rfl⟩
                    refine tl_v rfl (o_move (by conv => lhs; whnf)) ?_
                    refine tl_c rfl (o_call bd22 rfl (EqBytes_c (xs := imgS s49) (ys := im (64 * n)) (hx := by rw [hse2, im_length, hse3]; omega) (hy := im_length _))) ?_
                    rintro _ _ ⟨rfl, rfl⟩
                    refine tl_v rfl (o_pick_t rfl (by conv => lhs; whnf)) ?_
                    refine tl_v rfl (o_assign (by conv => lhs; whnf)) ?_
                    refine tl_nil ?_
                    refine q_then_n ?_
                    refine tc_ret ?_
                    refine q_then_r ?_
                    first
                    | exact ⟨.bool (decide (imgS s49 = im (64 * n))), F, res1 rfl rfl, Dr.sat (by repeat (first | with_reducible exact dr_refl | apply dr_keep | apply dr_drop)), by rw [decide_eq_true hse2], rfl⟩
                    | exact ⟨.bool (decide (imgS s49 = spl (im (64 * n)) q b)), F, res1 rfl rfl, Dr.sat (by repeat (first | with_reducible exact dr_refl | apply dr_keep | apply dr_drop)), by rw [hs1, hi0, decide_eq_true rfl], rfl⟩
                  · exfalso; simp [hse1] at h
                · exfalso; simp [he] at h
              · try simp only [decide_eq_true_eq, decide_eq_false_iff_not, Bool.not_eq_true', Bool.not_eq_false', Option.isNone_some, Option.isNone_none, Bool.not_true, Bool.not_false] at h
                refine tl_v rfl (o_move (by conv => lhs; whnf)) ?_
                refine tl_v rfl (o_len Try.underlying28 rfl) ?_
                refine tl_v rfl (o_move (by conv => lhs; whnf)) ?_
                refine tl_v rfl (o_move (by conv => lhs; whnf)) ?_
                refine tl_v rfl (by first | exact o_subI rfl rfl (by omega) | exact o_sub rfl rfl) ?_
                refine tl_v rfl (o_gtr rfl rfl) ?_
                refine tl_v rfl (o_pick_f rfl (by conv => lhs; whnf)) ?_
                refine tl_nil ?_
                refine q_then_n ?_
                refine tc_cond rfl (fun h => ?_) (fun h => ?_)
                · try simp only [decide_eq_true_eq, decide_eq_false_iff_not, Bool.not_eq_true', Bool.not_eq_false', Option.isNone_some, Option.isNone_none, Bool.not_true, Bool.not_false] at h
                  refine tc_seq ?_
                  refine tc_reg ?_
                  refine tl_v rfl (o_move (by conv => lhs; whnf)) ?_
                  obtain ⟨he, hse⟩ := hno (by omega)
                  have hse1 : s49.ops = 0 := by rw [hse]; rfl
                  have hse2 : imgS s49 = im (64 * n) := by rw [hse, hi0]
                  have hse3 : s49.ls.length = n := by rw [hse, hl0]
                  refine tl_v rfl (o_eqi rfl rfl) ?_
                  refine tl_v rfl (o_move (by conv => lhs; whnf)) ?_
                  refine tl_bool (d := 67) rfl (fun h => ?_) (fun h => ?_)
                  · try simp only [decide_eq_true_eq, decide_eq_false_iff_not, Bool.not_eq_true', Bool.not_eq_false', Option.isNone_some, Option.isNone_none, Bool.not_true, Bool.not_false] at h
                    refine tl_v rfl (o_move (by conv => lhs; whnf)) ?_
                    refine tl_c rfl (o_call bd41 rfl (Ops_c)) ?_
                    rintro _ _ ⟨rfl, rfl⟩
                    refine tl_v rfl (o_eqi rfl rfl) ?_
                    refine tl_v rfl (o_pick_t rfl (by conv => lhs; whnf)) ?_
                    refine tl_v rfl (o_move (by conv => lhs; whnf)) ?_
                    refine tl_bool (d := 72) rfl (fun h => ?_) (fun h => ?_)
                    · try simp only [decide_eq_true_eq, decide_eq_false_iff_not, Bool.not_eq_true', Bool.not_eq_false', Option.isNone_some, Option.isNone_none, Bool.not_true, Bool.not_false] at h
                      refine tl_v rfl (o_move (by conv => lhs; whnf)) ?_
                      refine tl_c rfl (o_call bd33 rfl (Image_c)) ?_
                      rintro _ _ ⟨a74, c74, rfl, hc74, rfl⟩
                      refine tl_v rfl (o_move (by conv => lhs; whnf)) ?_
                      refine tl_c rfl (o_call bd22 rfl (EqBytes_c (xs := imgS s49) (ys := im (64 * n)) (hx := by rw [hse2, im_length, hse3]; omega) (hy := im_length _))) ?_
                      rintro _ _ ⟨rfl, rfl⟩
                      refine tl_v rfl (o_pick_t rfl (by conv => lhs; whnf)) ?_
                      refine tl_v rfl (o_assign (by conv => lhs; whnf)) ?_
                      refine tl_nil ?_
                      refine q_then_n ?_
                      refine tc_ret ?_
                      refine q_then_r ?_
                      first
                      | exact ⟨.bool (decide (imgS s49 = im (64 * n))), F, res1 rfl rfl, Dr.sat (by repeat (first | with_reducible exact dr_refl | apply dr_keep | apply dr_drop)), by rw [decide_eq_true hse2], rfl⟩
                      | exact ⟨.bool (decide (imgS s49 = spl (im (64 * n)) q b)), F, res1 rfl rfl, Dr.sat (by repeat (first | with_reducible exact dr_refl | apply dr_keep | apply dr_drop)), by rw [hs1, hi0, decide_eq_true rfl], rfl⟩
                    · exfalso; simp [hse1] at h
                  · exfalso; simp [he] at h
                · have hq : 0 ≤ at_ := by omega
                  obtain ⟨q, rfl⟩ := Int.eq_ofNat_of_zero_le hq
                  have hqm : q + m ≤ n * 64 := by simp at h; omega
                  obtain ⟨he, hs1, hs2, hs3, hs4, hs5⟩ := sto_yes hs49 hw0 hL0 hb (room_from (by omega)) (by rw [hl0, hm]; omega) (by show (0 : Int) ≤ 0 ∧ (0 : Int) + _ < _; omega)
                  refine tc_skip ?_
                  refine q_then_n ?_
                  refine tc_seq ?_
                  refine tc_reg ?_
                  refine tl_v rfl (o_assign (by conv => lhs; whnf)) ?_
                  refine tl_nil ?_
                  refine q_then_n ?_
                  refine tc_seq ?_
                  refine tc_seq ?_
                  refine tc_reg ?_
                  refine tl_v rfl (o_assign (by conv => lhs; whnf)) ?_
                  refine tl_nil ?_
                  refine q_then_n ?_
                  refine tc_block ?_
                  refine tc_loop (fun kk ρ BB => ∃ (i : Nat), (i ≤ m) ∧ kk = m - i ∧ ρ 12 = .int .i64 ((cw q i : Nat) : Int) ∧ ρ 13 = .int .i64 (i : Nat) ∧ ρ 1 = .int .i64 (q : Nat) ∧ ρ 2 = .slice a m c ∧ ρ 8 = .slice a8 (64 * n) c8 ∧ ρ 10 = .pointer (some ⟨d36, 0, none⟩) ∧ ρ 11 = .int .i64 e49 ∧ BB = F * Sl 1 (.slice a8 (64 * n) c8) (64 * n) (bys (spl (im (64 * n)) q (b.take i))) * Sl 1 (.slice a35 (64 * n) c35) (64 * n) (bys (im (64 * n))) * Dev d36 s49 * Sl 1 (.slice a48 m c48) m (bys b)) (m := m - (0)) ?_ ?_
                  · exact ⟨0, by omega, rfl, rfl, rfl, rfl, rfl, rfl, rfl, rfl, by rw [List.take_zero, spl_nil]⟩
                  · intro k ρ B hI
                    obtain ⟨i, hp0, hkk2, hE12, hE13, hE1, hE2, hE8, hE10, hE11, rfl⟩ := hI
                    refine tc_env (d := 12) hE12 ?_
                    refine tc_env (d := 13) hE13 ?_
                    refine tc_env (d := 1) hE1 ?_
                    refine tc_env (d := 2) hE2 ?_
                    refine tc_env (d := 8) hE8 ?_
                    refine tc_env (d := 10) hE10 ?_
                    refine tc_env (d := 11) hE11 ?_
                    clear hE12 hE13 hE1 hE2 hE8 hE10 hE11
                    have hcw : cw q i ≤ i := cw_le q i
                    refine tc_seq ?_
                    refine tc_seq ?_
                    refine tc_reg ?_
                    refine tl_v rfl (o_move (by conv => lhs; whnf)) ?_
                    refine tl_v rfl (o_move (by conv => lhs; whnf)) ?_
                    refine tl_v rfl (o_len Try.underlying28 rfl) ?_
                    refine tl_v rfl (o_lss rfl rfl) ?_
                    refine tl_nil ?_
                    refine q_then_n ?_
                    refine tc_cond rfl (fun h => ?_) (fun h => ?_)
                    · try simp only [decide_eq_true_eq, decide_eq_false_iff_not, Bool.not_eq_true', Bool.not_eq_false', Option.isNone_some, Option.isNone_none, Bool.not_true, Bool.not_false] at h
                      refine tc_skip ?_
                      refine q_then_n ?_
                      refine tc_seq ?_
                      refine tc_block ?_
                      refine tc_seq ?_
                      refine tc_reg ?_
                      refine tl_v rfl (o_move (by conv => lhs; whnf)) ?_
                      refine tl_v rfl (o_move (by conv => lhs; whnf)) ?_
                      refine tl_v rfl (o_move (by conv => lhs; whnf)) ?_
                      refine tl_v rfl (by first | exact o_addI rfl rfl (by omega) | exact o_add rfl rfl) ?_
                      refine tl_env (d := 87) (v := .int .i64 ((q + i : Nat) : Int)) (rfl) ?_
                      refine tl_v rfl (o_move (by conv => lhs; whnf)) ?_
                      refine tl_v rfl (o_move (by conv => lhs; whnf)) ?_
                      refine tl_v rfl (o_ixP1 Try.underlying28 sz5 rfl rfl (by first | omega | (simp only [bys_length, ints_length, wds_length, bos_length, List.length_append, List.length_take, List.length_drop, List.length_singleton]; omega)) (by repeat (first | exact nn_some | with_reducible exact nn_sl (by decide) | exact nn_rs (by assumption) (fun _ => by first | omega | (simp only [bys_length, ints_length, wds_length, bos_length, List.length_append, List.length_take, List.length_drop, List.length_singleton]; omega)) | apply Nn.left))) ?_
                      refine tl_v rfl (o_ldP p5 rfl (by repeat (first | assumption | with_reducible exact rs_sl | with_reducible exact rs_pt0 | exact rs_none | apply Rs.left)) (by first | assumption | exact bys_at (by omega) | exact ints_at (by omega) | exact wds_at (by omega) | exact bos_at (by omega) | rfl)) ?_
                      refine tl_v rfl (o_ixP1 Try.underlying28 sz5 rfl rfl (by first | omega | (simp only [bys_length, ints_length, wds_length, bos_length, List.length_append, List.length_take, List.length_drop, List.length_singleton]; omega)) (by repeat (first | exact nn_some | with_reducible exact nn_sl (by decide) | exact nn_rs (by assumption) (fun _ => by first | omega | (simp only [bys_length, ints_length, wds_length, bos_length, List.length_append, List.length_take, List.length_drop, List.length_singleton]; omega)) | apply Nn.left))) ?_
                      refine tl_u rfl (o_stP sz5 rfl rfl rfl (by repeat (first | with_reducible exact ct_here | apply ct_left)) (by omega) (by first | exact bys_set _ _ _ | exact ints_set _ _ _ | exact wds_set' _ _ _ | exact bos_set _ _ _ | rfl)) ?_
                      refine tl_nil ?_
                      refine q_then_n ?_
                      refine tc_seq ?_
                      refine tc_reg ?_
                      refine tl_v rfl (o_move (by conv => lhs; whnf)) ?_
                      refine tl_v rfl (o_eqi rfl rfl) ?_
                      refine tl_v rfl (o_move (by conv => lhs; whnf)) ?_
                      refine tl_bool (d := 95) rfl (fun h => ?_) (fun h => ?_)
                      · try simp only [decide_eq_true_eq, decide_eq_false_iff_not, Bool.not_eq_true', Bool.not_eq_false', Option.isNone_some, Option.isNone_none, Bool.not_true, Bool.not_false] at h
                        refine tl_skip rfl ?_
                        refine tl_skip rfl ?_
                        refine tl_skip rfl ?_
                        refine tl_skip rfl ?_
                        refine tl_skip rfl ?_
                        refine tl_v rfl (o_pick_t rfl (by conv => lhs; whnf)) ?_
                        refine tl_nil ?_
                        refine q_then_n ?_
                        refine tc_cond_t rfl ?_
                        refine tc_reg ?_
                        refine tl_v rfl (o_move (by conv => lhs; whnf)) ?_
                        refine tl_v rfl (by first | exact o_addI rfl rfl (by omega) | exact o_add rfl rfl) ?_
                        refine tl_v rfl (o_assign (by conv => lhs; whnf)) ?_
                        refine tl_nil ?_
                        refine q_block_n (q_then_n ?_)
                        refine tc_reg ?_
                        refine tl_v rfl (o_move (by conv => lhs; whnf)) ?_
                        refine tl_v rfl (by first | exact o_addI rfl rfl (by omega) | exact o_add rfl rfl) ?_
                        refine tl_v rfl (o_assign (by conv => lhs; whnf)) ?_
                        refine tl_nil ?_
                        refine q_then_n ?_
                        exact ⟨_, by omega, i + 1, by omega, rfl, by first | (show Value.int .i64 (((cw q i : Nat) : Int) + 1) = .int .i64 ((cw q (i + 1) : Nat) : Int); rw [cw_t (p := q) (i := i) (by omega)] <;> rfl) | (show Value.int .i64 ((cw q i : Nat) : Int) = .int .i64 ((cw q (i + 1) : Nat) : Int); rw [cw_f (p := q) (i := i) (by omega)]), rfl, rfl, rfl, rfl, rfl, rfl, by rw [spl_take (by omega) (by rw [im_length]; omega)]⟩
                      · try simp only [decide_eq_true_eq, decide_eq_false_iff_not, Bool.not_eq_true', Bool.not_eq_false', Option.isNone_some, Option.isNone_none, Bool.not_true, Bool.not_false] at h
                        refine tl_v rfl (o_move (by conv => lhs; whnf)) ?_
                        refine tl_v rfl (o_move (by conv => lhs; whnf)) ?_
                        refine tl_v rfl (by first | exact o_addI rfl rfl (by omega) | exact o_add rfl rfl) ?_
                        refine tl_env (d := 98) (v := .int .i64 ((q + i : Nat) : Int)) (rfl) ?_
                        refine tl_v rfl (by first | exact o_remI rfl rfl (by omega) | exact o_rem rfl rfl (by omega)) ?_
                        refine tl_v rfl (o_eqi rfl rfl) ?_
                        refine tl_v rfl (o_pick_f rfl (by conv => lhs; whnf)) ?_
                        refine tl_nil ?_
                        refine q_then_n ?_
                        refine tc_cond rfl (fun h => ?_) (fun h => ?_)
                        · try simp only [decide_eq_true_eq, decide_eq_false_iff_not, Bool.not_eq_true', Bool.not_eq_false', Option.isNone_some, Option.isNone_none, Bool.not_true, Bool.not_false] at h
                          refine tc_reg ?_
                          refine tl_v rfl (o_move (by conv => lhs; whnf)) ?_
                          refine tl_v rfl (by first | exact o_addI rfl rfl (by omega) | exact o_add rfl rfl) ?_
                          refine tl_v rfl (o_assign (by conv => lhs; whnf)) ?_
                          refine tl_nil ?_
                          refine q_block_n (q_then_n ?_)
                          refine tc_reg ?_
                          refine tl_v rfl (o_move (by conv => lhs; whnf)) ?_
                          refine tl_v rfl (by first | exact o_addI rfl rfl (by omega) | exact o_add rfl rfl) ?_
                          refine tl_v rfl (o_assign (by conv => lhs; whnf)) ?_
                          refine tl_nil ?_
                          refine q_then_n ?_
                          exact ⟨_, by omega, i + 1, by omega, rfl, by first | (show Value.int .i64 (((cw q i : Nat) : Int) + 1) = .int .i64 ((cw q (i + 1) : Nat) : Int); rw [cw_t (p := q) (i := i) (by omega)] <;> rfl) | (show Value.int .i64 ((cw q i : Nat) : Int) = .int .i64 ((cw q (i + 1) : Nat) : Int); rw [cw_f (p := q) (i := i) (by omega)]), rfl, rfl, rfl, rfl, rfl, rfl, by rw [spl_take (by omega) (by rw [im_length]; omega)]⟩
                        · try simp only [decide_eq_true_eq, decide_eq_false_iff_not, Bool.not_eq_true', Bool.not_eq_false', Option.isNone_some, Option.isNone_none, Bool.not_true, Bool.not_false] at h
                          refine tc_skip ?_
                          refine q_block_n (q_then_n ?_)
                          refine tc_reg ?_
                          refine tl_v rfl (o_move (by conv => lhs; whnf)) ?_
                          refine tl_v rfl (by first | exact o_addI rfl rfl (by omega) | exact o_add rfl rfl) ?_
                          refine tl_v rfl (o_assign (by conv => lhs; whnf)) ?_
                          refine tl_nil ?_
                          refine q_then_n ?_
                          exact ⟨_, by omega, i + 1, by omega, rfl, by first | (show Value.int .i64 (((cw q i : Nat) : Int) + 1) = .int .i64 ((cw q (i + 1) : Nat) : Int); rw [cw_t (p := q) (i := i) (by omega)] <;> rfl) | (show Value.int .i64 ((cw q i : Nat) : Int) = .int .i64 ((cw q (i + 1) : Nat) : Int); rw [cw_f (p := q) (i := i) (by omega)]), rfl, rfl, rfl, rfl, rfl, rfl, by rw [spl_take (by omega) (by rw [im_length]; omega)]⟩
                    · try simp only [decide_eq_true_eq, decide_eq_false_iff_not, Bool.not_eq_true', Bool.not_eq_false', Option.isNone_some, Option.isNone_none, Bool.not_true, Bool.not_false] at h
                      refine tc_exit ?_
                      refine q_then_e (q_then_e (q_block_x (q_then_n ?_)))
                      refine tc_seq ?_
                      refine tc_reg ?_
                      obtain rfl : i = m := by omega
                      have hbt : b.take i = b := List.take_of_length_le (by omega)
                      rw [hbt]
                      have hx : ((imgS s49).drop q).take i = b := by rw [hs1, hi0, ← hm, spl_mid (by rw [im_length]; omega)]
                      have hs2b : s49.ops = ((cw q i : Nat) : Int) := by rw [hs2, hm]; exact Int.zero_add _
                      refine tl_v rfl (o_move (by conv => lhs; whnf)) ?_
                      refine tl_v rfl (o_move (by conv => lhs; whnf)) ?_
                      refine tl_v rfl (o_move (by conv => lhs; whnf)) ?_
                      refine tl_v rfl (o_len Try.underlying28 rfl) ?_
                      refine tl_c rfl (o_call bd27 rfl (Load_c (p := q) (hoff := hs3.off) (hpm := by rw [hs5, hl0]; omega))) ?_
                      rintro _ _ ⟨a109, c109, rfl, hc109, rfl⟩
                      refine tl_v rfl (o_move (by conv => lhs; whnf)) ?_
                      refine tl_v rfl (o_extract rfl rfl) ?_
                      refine tl_v rfl (o_extract rfl rfl) ?_
                      refine tl_v rfl (o_assign (by conv => lhs; whnf)) ?_
                      refine tl_v rfl (o_assign (by conv => lhs; whnf)) ?_
                      refine tl_nil ?_
                      refine q_then_n ?_
                      refine tc_seq ?_
                      refine tc_reg ?_
                      refine tl_v rfl (o_move (by conv => lhs; whnf)) ?_
                      refine tl_v rfl (o_eqi rfl rfl) ?_
                      refine tl_v rfl (o_move (by conv => lhs; whnf)) ?_
                      refine tl_bool (d := 114) rfl (fun h => ?_) (fun h => ?_)
                      · try simp only [decide_eq_true_eq, decide_eq_false_iff_not, Bool.not_eq_true', Bool.not_eq_false', Option.isNone_some, Option.isNone_none, Bool.not_true, Bool.not_false] at h
                        refine tl_v rfl (o_move (by conv => lhs; whnf)) ?_
                        refine tl_v rfl (o_eqi rfl rfl) ?_
                        refine tl_v rfl (o_pick_t rfl (by conv => lhs; whnf)) ?_
                        refine tl_v rfl (o_move (by conv => lhs; whnf)) ?_
                        refine tl_bool (d := 118) rfl (fun h => ?_) (fun h => ?_)
                        · try simp only [decide_eq_true_eq, decide_eq_false_iff_not, Bool.not_eq_true', Bool.not_eq_false', Option.isNone_some, Option.isNone_none, Bool.not_true, Bool.not_false] at h
                          refine tl_v rfl (o_move (by conv => lhs; whnf)) ?_
                          refine tl_v rfl (o_move (by conv => lhs; whnf)) ?_
                          refine tl_c rfl (o_call bd22 rfl (EqBytes_c (xs := ((imgS s49).drop q).take i) (ys := b) (hx := by rw [hx]; exact hm))) ?_
                          rintro _ _ ⟨rfl, rfl⟩
                          refine tl_v rfl (o_pick_t rfl (by conv => lhs; whnf)) ?_
                          refine tl_v rfl (o_move (by conv => lhs; whnf)) ?_
                          refine tl_bool (d := 123) rfl (fun h => ?_) (fun h => ?_)
                          · try simp only [decide_eq_true_eq, decide_eq_false_iff_not, Bool.not_eq_true', Bool.not_eq_false', Option.isNone_some, Option.isNone_none, Bool.not_true, Bool.not_false] at h
                            refine tl_v rfl (o_move (by conv => lhs; whnf)) ?_
                            refine tl_c rfl (o_call bd41 rfl (Ops_c)) ?_
                            rintro _ _ ⟨rfl, rfl⟩
                            refine tl_v rfl (o_move (by conv => lhs; whnf)) ?_
                            refine tl_v rfl (o_eqi rfl rfl) ?_
                            refine tl_v rfl (o_pick_t rfl (by conv => lhs; whnf)) ?_
                            refine tl_v rfl (o_move (by conv => lhs; whnf)) ?_
                            refine tl_bool (d := 129) rfl (fun h => ?_) (fun h => ?_)
                            · try simp only [decide_eq_true_eq, decide_eq_false_iff_not, Bool.not_eq_true', Bool.not_eq_false', Option.isNone_some, Option.isNone_none, Bool.not_true, Bool.not_false] at h
                              refine tl_v rfl (o_move (by conv => lhs; whnf)) ?_
                              refine tl_c rfl (o_call bd33 rfl (Image_c)) ?_
                              rintro _ _ ⟨a131, c131, rfl, hc131, rfl⟩
                              refine tl_v rfl (o_move (by conv => lhs; whnf)) ?_
                              refine tl_c rfl (o_call bd22 rfl (EqBytes_c (xs := imgS s49) (ys := spl (im (64 * n)) q b) (hx := by rw [hs1, hi0, spl_length (by rw [im_length]; omega), im_length, hs5, hl0]; omega) (hy := by rw [spl_length (by rw [im_length]; omega), im_length]))) ?_
                              rintro _ _ ⟨rfl, rfl⟩
                              refine tl_v rfl (o_pick_t rfl (by conv => lhs; whnf)) ?_
                              refine tl_v rfl (o_assign (by conv => lhs; whnf)) ?_
                              refine tl_nil ?_
                              refine q_then_n ?_
                              refine tc_ret ?_
                              first
                              | exact ⟨.bool (decide (imgS s49 = im (64 * n))), F, res1 rfl rfl, Dr.sat (by repeat (first | with_reducible exact dr_refl | apply dr_keep | apply dr_drop)), by rw [decide_eq_true hse2], rfl⟩
                              | exact ⟨.bool (decide (imgS s49 = spl (im (64 * n)) q b)), F, res1 rfl rfl, Dr.sat (by repeat (first | with_reducible exact dr_refl | apply dr_keep | apply dr_drop)), by rw [hs1, hi0, decide_eq_true rfl], rfl⟩
                            · (exfalso; first | (revert h; simp; done) | (revert h; simp; omega) | (simp at h; omega) | omega)
                          · exfalso; simp [hx] at h
                        · (exfalso; first | (revert h; simp; done) | (revert h; simp; omega) | (simp at h; omega) | omega)
                      · (exfalso; first | (revert h; simp; done) | (revert h; simp; omega) | (simp at h; omega) | omega)

end Go.Vl
