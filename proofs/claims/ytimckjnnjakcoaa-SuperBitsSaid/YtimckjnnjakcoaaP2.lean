/- Walks of package pmem: Store. Conditions: none. -/
import Derived.Test.YtimckjnnjakcoaaP1
set_option linter.unusedVariables false
set_option linter.unusedSimpArgs false
namespace Go.Vl
open Go Go.Proofs


theorem doneE_ok {s : DevS} (h : doneE s = 0) : (doneS s).off = s.off ∧ (doneS s).ls = s.ls := by
  unfold doneE at h; unfold doneS
  split <;> rename_i e
  · exact ⟨rfl, rfl⟩
  · rw [e] at h
    split
    · exact ⟨rfl, rfl⟩
    · rename_i h1; simp [h1] at h
theorem layS_off (p v : Nat) (s : DevS) : (layS p v s).off = s.off := (onLine_fields _ _ s).2.2.2.1
theorem layS_len (p v : Nat) (s : DevS) : (layS p v s).ls.length = s.ls.length := (onLine_fields _ _ s).2.2.2.2
theorem stW_len {p : Nat} {b : List Nat} {s : DevS} : (stW p b s).length = 8 := by
  unfold stW; rw [spl_length, le_length]; rw [le_length, List.length_take]; omega
theorem stW_bytes {p : Nat} {b : List Nat} {s : DevS} (hb : ∀ x ∈ b, x < 256) : ∀ x ∈ stW p b s, x < 256 := fun x hx => by
  unfold stW spl at hx
  simp only [List.mem_append] at hx
  rcases hx with (h | h) | h
  · exact le_bytes _ _ _ (List.mem_of_mem_take h)
  · exact hb _ (List.mem_of_mem_take h)
  · exact le_bytes _ _ _ (List.mem_of_mem_drop h)
theorem storeF_step {p : Nat} {b : List Nat} {s : DevS} (h : b ≠ []) : storeF b.length p b s = if doneE (layS (p - p % 8) (nm (stW p b s)) s) ≠ 0 then (doneE (layS (p - p % 8) (nm (stW p b s)) s), doneS (layS (p - p % 8) (nm (stW p b s)) s))
    else storeF (b.drop (8 - p % 8)).length (p + min b.length (8 - p % 8)) (b.drop (8 - p % 8)) (doneS (layS (p - p % 8) (nm (stW p b s)) s)) := by
  match b, h with
  | x :: l, _ =>
    show storeF (l.length + 1) p (x :: l) s = _
    conv => lhs; unfold storeF
    rw [if_neg (by simp)]
    split
    · rfl
    · rw [Nat.min_comm]; exact storeF_fuel _ _ (by rw [List.length_drop, List.length_cons]; omega) (Nat.le_refl _)
theorem stW_cells {p n : Nat} {b : List Nat} {s : DevS} {w : Nat} (hw : w = (seenL (s.ls.getD (p / 64) zline)).getD (p % 64 / 8) 0) (hn : n = min b.length (8 - p % 8)) : splice (bys (le 8 w)) (p % 8) ((bys b).take n) = bys (stW p b s) := by
  have h1 : (bys b).take n = bys (b.take (8 - p % 8)) := by
    unfold bys; rw [← List.map_take]; congr 1
    rw [hn]
    rcases Nat.le_total b.length (8 - p % 8) with h | h
    · rw [Nat.min_eq_left h, List.take_length, List.take_of_length_le h]
    · rw [Nat.min_eq_right h]
  rw [h1, splice_spl (by simp only [bys_length, le_length, List.length_take]; omega), spl_bys, hw]; rfl
theorem stW_nm {p : Nat} {b : List Nat} {s : DevS} (hb : ∀ x ∈ b, x < 256) : nm (stW p b s) < 18446744073709551616 := by
  have := nm_lt _ (stW_bytes (p := p) (s := s) hb)
  rw [stW_len] at this; exact this
theorem seenL_getD {s : DevS} {i : Nat} (h : i < s.ls.length) : s.ls.getD i zline = s.ls[i] := by simp [List.getD, h]

set_option maxRecDepth 20000 in
set_option maxHeartbeats 1000000 in
theorem StoreW_f (F : SP) {a : Option Addr} {c m d : Nat} {p0 : Int} {s : DevS} {xs : List Nat} (hr : Rs F a (bys xs)) (hm : xs.length = m) (hmc : m ≤ c) (hb : ∀ x ∈ xs, x < 256) (hml : m ≤ 140737488351232) (hp : -9223372036854775808 ≤ p0 ∧ p0 ≤ 9223372036854775807) (hroom : rdy s.ls.length s.off p0 m = 0 → Room m s) :
    Fn Try.prog 43 #[.pointer (some ⟨d, 0, none⟩), .int .i64 p0, .slice a m c] (F * Dev d s) (fun r B => r = .int .i64 (sto p0 xs s).1 ∧ B = F * Dev d (sto p0 xs s).2) := by
  have hE := @fn_enterW Try.prog 43 Try.f43 _ [.pointer (some ⟨d, 0, none⟩), .int .i64 p0, .slice a m c] (F * Dev d s) (fun r B => r = .int .i64 (sto p0 xs s).1 ∧ B = F * Dev d (sto p0 xs s).2) _ Try.func43 rfl Try.ntmps43 (by simp)
  refine hE ?_
  clear hE
  refine tc_dev fun hw _ _ _ _ _ _ => ?_
  have hpos := hw.pos
  have htop := hw.top
  refine tc_pre (dev_back hw ‹_› ‹_›) ?_
  refine tc_seq ?_
  refine tc_reg ?_
  refine tl_v rfl (o_assign (by conv => lhs; whnf)) ?_
  refine tl_nil ?_
  refine q_then_n ?_
  refine tc_seq ?_
  refine tc_seq ?_
  refine tc_reg ?_
  refine tl_v rfl (o_move (by conv => lhs; whnf)) ?_
  refine tl_v rfl (o_move (by conv => lhs; whnf)) ?_
  refine tl_v rfl (o_move (by conv => lhs; whnf)) ?_
  refine tl_v rfl (o_len Try.underlying28 rfl) ?_
  refine tl_c rfl (o_call bd88 rfl (ready_c)) ?_
  rintro _ _ ⟨rfl, rfl⟩
  refine tl_v rfl (o_assign (by conv => lhs; whnf)) ?_
  refine tl_nil ?_
  refine q_then_n ?_
  refine tc_seq ?_
  refine tc_reg ?_
  refine tl_v rfl (o_move (by conv => lhs; whnf)) ?_
  refine tl_v rfl (o_nei rfl rfl) ?_
  refine tl_nil ?_
  refine q_then_n ?_
  refine tc_cond rfl (fun h => ?_) (fun h => ?_)
  · try simp only [decide_eq_true_eq, decide_eq_false_iff_not, Bool.not_eq_true', Bool.not_eq_false', Option.isNone_some, Option.isNone_none, Bool.not_true, Bool.not_false] at h
    refine tc_seq ?_
    refine tc_reg ?_
    refine tl_v rfl (o_move (by conv => lhs; whnf)) ?_
    refine tl_v rfl (o_assign (by conv => lhs; whnf)) ?_
    refine tl_nil ?_
    refine q_then_n ?_
    refine tc_ret ?_
    refine q_then_r ?_
    have hs : sto p0 xs s = (rdy s.ls.length s.off p0 m, s) := by unfold sto; rw [hm, if_pos h]
    rw [hs]
    exact ⟨_, _, res1 rfl rfl, fun _ _ h => h, rfl, rfl⟩
  · simp only [bne_iff_ne, ne_eq, decide_eq_false_iff_not, Decidable.not_not] at h
    have hr0 := rdy0 h
    obtain ⟨q, rfl⟩ := Int.eq_ofNat_of_zero_le hr0.2.1
    have hsto : sto (q : Int) xs s = storeF xs.length q xs s := by unfold sto; rw [hm, if_neg (by omega)]; rfl
    rw [hsto]
    refine tc_skip ?_
    refine q_then_n ?_
    refine tc_seq ?_
    refine tc_block ?_
    refine tc_loop (fun kk ρ BB => ∃ (p : Nat) (m1 : Nat) (c1 : Nat) (a1 : Option Addr) (b : List Nat) (s1 : DevS), (storeF b.length p b s1 = storeF xs.length q xs s) ∧ (b.length = m1) ∧ (Rs F a1 (bys b)) ∧ (∀ x ∈ b, x < 256) ∧ (m1 ≤ c1) ∧ (p + m1 ≤ s1.ls.length * 64) ∧ (s1.off = false) ∧ (Room m1 s1) ∧ (m1 ≤ m) ∧ (s1.ls.length = s.ls.length) ∧ kk = m1 ∧ ρ 1 = .int .i64 (p : Nat) ∧ ρ 2 = .slice a1 m1 c1 ∧ ρ 0 = .pointer (some ⟨d, 0, none⟩) ∧ BB = F * Dev d s1) (m := (m)) ?_ ?_
    · exact ⟨q, m, c, a, xs, s, rfl, hm, hr, hb, hmc, by omega, hr0.1, hroom h, Nat.le_refl _, rfl, rfl, rfl, rfl, rfl, rfl⟩
    · intro k ρ B hI
      obtain ⟨p, m1, c1, a1, b, s1, hp0, hp1, hp2, hp3, hp4, hp5, hp6, hp7, hp8, hp9, hkk1, hE1, hE2, hE0, rfl⟩ := hI
      refine tc_env (d := 1) hE1 ?_
      refine tc_env (d := 2) hE2 ?_
      refine tc_env (d := 0) hE0 ?_
      clear hE1 hE2 hE0
      refine tc_seq ?_
      refine tc_seq ?_
      refine tc_reg ?_
      refine tl_v rfl (o_move (by conv => lhs; whnf)) ?_
      refine tl_v rfl (o_len Try.underlying28 rfl) ?_
      refine tl_v rfl (o_gtr rfl rfl) ?_
      refine tl_nil ?_
      refine q_then_n ?_
      refine tc_cond rfl (fun h => ?_) (fun h => ?_)
      · simp only [decide_eq_true_eq, gt_iff_lt] at h
        have hb0 : b ≠ [] := by intro e; subst e; simp at hp1; omega
        have hpl : p / 64 < s1.ls.length := by omega
        have hpn : p ≤ 4194304 := by omega
        refine tc_skip ?_
        refine q_then_n ?_
        refine tc_block ?_
        refine tc_seq ?_
        refine tc_reg ?_
        refine tl_v rfl (o_move (by conv => lhs; whnf)) ?_
        refine tl_v rfl (o_move (by conv => lhs; whnf)) ?_
        refine tl_v rfl (o_remN (b := 8) rfl rfl (by omega)) ?_
        refine tl_v rfl (by first | exact o_subI rfl rfl (by omega) | exact o_sub rfl rfl) ?_
        refine tl_env (d := 29) (v := .int .i64 ((p - p % 8 : Nat) : Int)) (by show Value.int .i64 ((p : Int) - ((p % 8 : Nat) : Int)) = _; congr 1; omega) ?_
        refine tl_v rfl (o_assign (by conv => lhs; whnf)) ?_
        refine tl_nil ?_
        refine q_then_n ?_
        refine tc_seq ?_
        refine tc_reg ?_
        refine tl_v rfl (o_move (by conv => lhs; whnf)) ?_
        refine tl_v rfl (o_nilCheck rfl) ?_
        refine tl_dev fun hw1 bl svs av kvs hsv hkv => ?_
        refine tl_have (fun _ _ h => devR_of hw1 hsv h) fun hR => ?_
        have hwl := hw1.line _ (List.getElem_mem hpl)
        have hs8 := hwl.eight _ (seenL_mem hwl)
        have hq1 : (p - p % 8) / 64 = p / 64 := by omega
        have hq2 : (p - p % 8) % 64 / 8 = p % 64 / 8 := by omega
        refine tl_v rfl (o_fieldAddr (o := 0) Try.underlying97 rfl rfl sz95 rfl) ?_
        refine tl_v rfl (o_load p95 rfl devC_d rfl) ?_
        refine tl_v rfl (o_move (by conv => lhs; whnf)) ?_
        refine tl_v rfl (o_quoN (b := 64) rfl rfl (by omega)) ?_
        refine tl_v rfl (o_indexAddrN (j := p / 64) Try.underlying95 sz150 rfl (by show Value.int .i64 _ = Value.int .i64 _; congr 2) hpl) ?_
        refine tl_c rfl (o_call bd89 rfl (seenR_f hR hpl)) ?_
        rintro _ _ ⟨rfl, rfl⟩
        refine tl_pre (dev_back hw1 hsv hkv) ?_
        refine tl_x rfl (o_alloc z147 rfl) ?_
        rintro _ _ ⟨b9, rfl, rfl⟩
        refine tl_u rfl (o_stUN (l' := wds (seenL s1.ls[p / 64])) rfl upd_here sz147 rfl (by rw [wds_length]; exact hs8) (wds_all _) (by simp) (splice_all (by rw [wds_length, hs8]; rfl))) ?_
        refine tl_nil ?_
        refine q_then_n ?_
        refine tc_seq ?_
        refine tc_reg ?_
        refine tl_x rfl (o_alloc z157 rfl) ?_
        rintro _ _ ⟨b10, rfl, rfl⟩
        refine tl_nil ?_
        refine q_then_n ?_
        refine tc_seq ?_
        refine tc_regh (S := F * Dev d s1 * pt b9 (cl (wds (seenL s1.ls[p / 64])) 147)) mo (by repeat (first | with_reducible exact dr_refl | apply dr_keep | apply dr_drop)) ?_
        show TH _ _ _ _ _ 8 #[false, false, false, false, false, false, false, false] _ _
        refine th_take (i := 0) (listed' := #[true, false, false, false, false, false, false, false]) rfl (by kernel_rfl) (by kernel_rfl) (by kernel_rfl) rfl rfl (o_sliceA Try.underlying157 sz5 rfl bnd_none bnd_none (by omega) (by omega)) ?_
        refine th_take (i := 1) (listed' := #[true, true, false, false, false, false, false, false]) rfl (by kernel_rfl) (by kernel_rfl) (by kernel_rfl) rfl rfl (o_move (by conv => lhs; whnf)) ?_
        refine th_take (i := 2) (listed' := #[true, true, true, false, false, false, false, false]) rfl (by kernel_rfl) (by kernel_rfl) (by kernel_rfl) rfl rfl (o_remN (b := 64) rfl rfl (by omega)) ?_
        refine th_take (i := 3) (listed' := #[true, true, true, true, false, false, false, false]) rfl (by kernel_rfl) (by kernel_rfl) (by kernel_rfl) rfl rfl (o_quoN (b := 8) rfl rfl (by omega)) ?_
        refine th_take (i := 4) (listed' := #[true, true, true, true, true, false, false, false]) rfl (by kernel_rfl) (by kernel_rfl) (by kernel_rfl) rfl rfl (o_indexAddrAN1 (j := p % 64 / 8) Try.underlying147 sz53 rfl (by show Value.int .i64 _ = Value.int .i64 _; congr 2) (by omega)) ?_
        refine th_take (i := 5) (listed' := #[true, true, true, true, true, true, false, false]) rfl (by kernel_rfl) (by kernel_rfl) (by kernel_rfl) rfl rfl (o_load p53 rfl (by repeat (first | with_reducible exact has_here | with_reducible exact has_pt | apply has_left)) (by rw [Nat.zero_add]; exact wds_at (i := p % 64 / 8) (by rw [hs8]; omega))) ?_
        refine th_one (i := 6) (by kernel_rfl) ?_
        refine oh_c (i := 6) (listed' := #[true, true, true, true, true, true, true, false]) rfl rfl rfl (o_call bd99 rfl (Put64_c (xs := []) (hv := hwl.words _ (seenL_mem hwl) _ (List.getElem_mem _)))) ?_
        rintro _ _ ⟨a44, c44, rfl, hc44, rfl⟩
        refine ⟨by repeat (first | with_reducible exact dr_refl | apply dr_keep | apply dr_drop), ?_⟩
        refine th_one (i := 7) (by kernel_rfl) ?_
        refine oh_x (i := 7) (listed' := #[true, true, true, true, true, true, true, true]) rfl rfl rfl (o_cpB (m := 8) (l' := bys (le 8 ((seenL s1.ls[p / 64])[p % 64 / 8]'(by rw [hs8]; omega)))) rfl (by repeat (first | with_reducible exact upd_here | with_reducible exact upd_pt | apply upd_left)) Try.underlying28 sz5 rfl (by repeat (first | assumption | with_reducible exact rs_sl | with_reducible exact rs_pt0 | exact rs_none | apply Rs.left)) (by rw [bys_length, List.nil_append, le_length]) rfl (bys_all _) (by simp) (by rw [List.nil_append, List.take_of_length_le (by rw [bys_length, le_length]; omega)]; exact splice_all (by rw [bys_length, le_length]; rfl))) ?_
        rintro _ _ ⟨rfl, rfl⟩
        refine ⟨by repeat (first | with_reducible exact dr_refl | apply dr_keep | apply dr_drop), ?_⟩
        refine th_done (by kernel_rfl) ?_
        refine q_then_n ?_
        refine tc_seq ?_
        refine tc_reg ?_
        refine tl_v rfl (o_move (by conv => lhs; whnf)) ?_
        refine tl_v rfl (o_move (by conv => lhs; whnf)) ?_
        refine tl_v rfl (by first | exact o_subI rfl rfl (by omega) | exact o_sub rfl rfl) ?_
        refine tl_env (d := 48) (v := .int .i64 ((p % 8 : Nat) : Int)) (by show Value.int .i64 ((p : Int) - ((p - p % 8 : Nat) : Int)) = _; congr 1; omega) ?_
        refine tl_v rfl (o_sliceA Try.underlying157 sz5 rfl (bnd_nat rfl) bnd_none (by omega) (by omega)) ?_
        refine tl_env (d := 49) (v := .slice (some ⟨b10, p % 8, none⟩) (8 - p % 8) (8 - p % 8)) (by show Value.slice (cutAddr _ _ _ _) _ _ = _; rw [cut_lt (by omega)]; simp) ?_
        refine tl_v rfl (o_move (by conv => lhs; whnf)) ?_
        refine tl_x rfl (o_cpB (m := min m1 (8 - p % 8)) (xs := bys b) (l' := bys (stW p b s1)) rfl (by repeat (first | with_reducible exact upd_here | with_reducible exact upd_pt | apply upd_left)) Try.underlying28 sz5 rfl (by repeat (first | assumption | with_reducible exact rs_sl | with_reducible exact rs_pt0 | exact rs_none | apply Rs.left)) (by rw [bys_length, hp1]) rfl (bys_all _) (by rw [bys_length, le_length]; omega) (stW_cells (by rw [seenL_getD hpl]; simp [List.getD, hs8, show p % 64 / 8 < 8 by omega]) (by rw [hp1]))) ?_
        rintro _ _ ⟨rfl, rfl⟩
        refine tl_v rfl (o_assign (by conv => lhs; whnf)) ?_
        refine tl_nil ?_
        refine q_then_n ?_
        refine tc_seq ?_
        refine tc_reg ?_
        refine tl_v rfl (o_sliceA Try.underlying157 sz5 rfl bnd_none bnd_none (by omega) (by omega)) ?_
        refine tl_env (d := 53) (v := .slice (some ⟨b10, 0, none⟩) 8 8) (rfl) ?_
        refine tl_c rfl (o_call bd98 rfl (Take64_c (xs := stW p b s1) (hm := stW_len) (hb := stW_bytes hp3) (p := 0))) ?_
        rintro _ _ ⟨rfl, rfl⟩
        refine tl_v rfl (o_move (by conv => lhs; whnf)) ?_
        refine tl_v rfl (o_extract rfl rfl) ?_
        refine tl_v rfl (o_extract rfl rfl) ?_
        refine tl_v rfl (o_assign (by conv => lhs; whnf)) ?_
        refine tl_env (d := 12) (v := .int .u64 ((nm (stW p b s1) : Nat) : Int)) (by show Value.int .u64 ((nm (((stW p b s1).drop 0).take 8) : Nat) : Int) = _; rw [List.drop_zero, List.take_of_length_le (by rw [stW_len]; omega)]) ?_
        refine tl_v rfl (o_assign (by conv => lhs; whnf)) ?_
        refine tl_nil ?_
        refine q_then_n ?_
        refine tc_seq ?_
        refine tc_seq ?_
        refine tc_reg ?_
        refine tl_v rfl (o_move (by conv => lhs; whnf)) ?_
        refine tl_v rfl (o_move (by conv => lhs; whnf)) ?_
        refine tl_v rfl (o_move (by conv => lhs; whnf)) ?_
        have hrm1 : Room 1 s1 := fun l hl => by have := hp7 l hl; omega
        refine tl_c rfl (o_call bd97 rfl (lay_c (p := p - p % 8) (hat := by rw [hq1]; exact hpl) (hv := stW_nm hp3))) ?_
        rintro _ _ ⟨rfl, rfl⟩
        refine tl_v rfl (o_assign (by conv => lhs; whnf)) ?_
        refine tl_nil ?_
        refine q_then_n ?_
        refine tc_seq ?_
        refine tc_reg ?_
        refine tl_v rfl (o_move (by conv => lhs; whnf)) ?_
        refine tl_v rfl (o_nei rfl rfl) ?_
        refine tl_nil ?_
        refine q_then_n ?_
        refine tc_cond rfl (fun h => ?_) (fun h => ?_)
        · try simp only [decide_eq_true_eq, decide_eq_false_iff_not, Bool.not_eq_true', Bool.not_eq_false', Option.isNone_some, Option.isNone_none, Bool.not_true, Bool.not_false] at h
          refine tc_seq ?_
          refine tc_reg ?_
          refine tl_v rfl (o_move (by conv => lhs; whnf)) ?_
          refine tl_v rfl (o_assign (by conv => lhs; whnf)) ?_
          refine tl_nil ?_
          refine q_then_n ?_
          refine tc_ret ?_
          refine q_then_r (q_block_r (q_then_r (q_block_r (q_then_r ?_))))
          simp only [decide_eq_true_eq, ne_eq] at h
          have e : storeF xs.length q xs s = (doneE (layS (p - p % 8) (nm (stW p b s1)) s1), doneS (layS (p - p % 8) (nm (stW p b s1)) s1)) := by rw [← hp0, storeF_step hb0, if_pos h]
          exact ⟨.int .i64 (doneE (layS (p - p % 8) (nm (stW p b s1)) s1)), F * Dev d (doneS (layS (p - p % 8) (nm (stW p b s1)) s1)), res1 rfl rfl, Dr.sat (by repeat (first | with_reducible exact dr_refl | apply dr_keep | apply dr_drop)), by rw [e], by rw [e]⟩
        · simp only [decide_eq_false_iff_not, ne_eq, Decidable.not_not] at h
          obtain ⟨hd1, hd2⟩ := doneE_ok h
          have hstep : storeF (b.drop (8 - p % 8)).length (p + min m1 (8 - p % 8)) (b.drop (8 - p % 8)) (doneS (layS (p - p % 8) (nm (stW p b s1)) s1)) = storeF xs.length q xs s := by rw [← hp0, storeF_step hb0, if_neg (by simpa using h), hp1]
          have hrm2 : Room (m1 - min m1 (8 - p % 8)) (doneS (layS (p - p % 8) (nm (stW p b s1)) s1)) := fun l hl => by
            rw [hd2] at hl
            have h1 : Room ((m1 - 1) + 1) s1 := fun l hl => by have := hp7 l hl; omega
            have := onLine_room (f := layL ((p - p % 8) % 64 / 8) (nm (stW p b s1))) (i := (p - p % 8) / 64) h1 (fun l => by simp [layL]) l hl
            omega
          have hrs2 : Rs F (cutAddr a1 c1 (min m1 (8 - p % 8)) 1) (bys (b.drop (8 - p % 8))) := by
            have h1 := rs_cut (l := min m1 (8 - p % 8)) (k := 1) (cap := c1) hp2 (by rw [bys_length]; omega)
            have h2 : (bys b).drop (min m1 (8 - p % 8) * 1) = bys (b.drop (8 - p % 8)) := by
              unfold bys
              rw [← List.map_drop, Nat.mul_one]; congr 1
              rcases Nat.le_total m1 (8 - p % 8) with h | h
              · rw [Nat.min_eq_left h, List.drop_of_length_le (by omega), List.drop_of_length_le (by omega)]
              · rw [Nat.min_eq_right h]
            rw [h2] at h1; exact h1
          refine tc_skip ?_
          refine q_then_n ?_
          refine tc_seq ?_
          refine tc_reg ?_
          refine tl_v rfl (o_move (by conv => lhs; whnf)) ?_
          refine tl_v rfl (o_move (by conv => lhs; whnf)) ?_
          refine tl_v rfl (by first | exact o_addI rfl rfl (by omega) | exact o_add rfl rfl) ?_
          refine tl_env (d := 66) (v := .int .i64 ((p + min m1 (8 - p % 8) : Nat) : Int)) (rfl) ?_
          refine tl_v rfl (o_assign (by conv => lhs; whnf)) ?_
          refine tl_nil ?_
          refine q_then_n ?_
          refine tc_reg ?_
          refine tl_v rfl (o_move (by conv => lhs; whnf)) ?_
          refine tl_v rfl (o_move (by conv => lhs; whnf)) ?_
          refine tl_v rfl (o_slice Try.underlying28 sz5 rfl (bnd_nat rfl) bnd_none (Nat.min_le_left _ _) hp4) ?_
          refine tl_pre (Dr.sat (A' := F * Dev d (doneS (layS (p - p % 8) (nm (stW p b s1)) s1))) (by repeat (first | with_reducible exact dr_refl | apply dr_keep | apply dr_drop))) ?_
          refine tl_v rfl (o_assign (by conv => lhs; whnf)) ?_
          refine tl_nil ?_
          refine q_block_n (q_then_n ?_)
          exact ⟨_, by omega, p + min m1 (8 - p % 8), m1 - min m1 (8 - p % 8), _, _, b.drop (8 - p % 8), _, hstep, by rw [List.length_drop]; omega, hrs2, fun x hx => hp3 x (List.mem_of_mem_drop hx), by omega, by rw [hd2, layS_len]; omega, by rw [hd1, layS_off]; exact hp6, hrm2, by omega, by rw [hd2, layS_len]; exact hp9, rfl, rfl, rfl, rfl, rfl⟩
      · try simp only [decide_eq_true_eq, decide_eq_false_iff_not, Bool.not_eq_true', Bool.not_eq_false', Option.isNone_some, Option.isNone_none, Bool.not_true, Bool.not_false] at h
        refine tc_exit ?_
        refine q_then_e (q_then_e (q_block_x (q_then_n ?_)))
        refine tc_seq ?_
        refine tc_reg ?_
        refine tl_v rfl (o_assign (by conv => lhs; whnf)) ?_
        refine tl_nil ?_
        refine q_then_n ?_
        refine tc_ret ?_
        obtain rfl : b = [] := by cases b with
          | nil => rfl
          | cons _ _ => simp at hp1; omega
        have e : storeF xs.length q xs s = (0, s1) := by rw [← hp0, storeF_nil]
        exact ⟨.int .i64 0, F * Dev d s1, res1 rfl rfl, fun _ _ h => h, by rw [e], by rw [e]⟩


theorem Store_c {A R : SP} {C : SP → SP} {d : Nat} {s : DevS} (hc : Ct A (Dev d s) R C := by repeat (first | with_reducible exact ct_here | apply ct_left)) {a : Option Addr} {c m : Nat} {p : Int} {xs : List Nat} (hr : Rs R a (bys xs) := by repeat (first | assumption | with_reducible exact rs_sl | with_reducible exact rs_pt0 | exact rs_none | apply Rs.left)) (hm : xs.length = m := by first | assumption | rfl) (hmc : m ≤ c := by first | assumption | omega) (hb : ∀ x ∈ xs, x < 256 := by assumption) (hml : m ≤ 140737488351232 := by omega) (hp : -9223372036854775808 ≤ p ∧ p ≤ 9223372036854775807 := by omega) (hroom : rdy s.ls.length s.off p m = 0 → Room m s := by assumption) :
    Fn Try.prog 43 #[.pointer (some ⟨d, 0, none⟩), .int .i64 p, .slice a m c] A (fun r B => ∃ e s2, sto p xs s = (e, s2) ∧ r = .int .i64 e ∧ B = C (Dev d s2)) := by
  obtain ⟨rfl, hC⟩ := hc
  exact (StoreW_f R hr hm hmc hb hml hp hroom).mono fun _ _ h => ⟨(sto p xs s).1, (sto p xs s).2, rfl, h.1, by rw [hC]; exact h.2⟩

end Go.Vl
