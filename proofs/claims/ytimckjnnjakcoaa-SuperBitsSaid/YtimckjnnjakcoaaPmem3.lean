/- Walks of package pmem: the power goes. Conditions: none. -/
import Derived.Test.YtimckjnnjakcoaaPmem2
set_option linter.unusedVariables false
set_option linter.unusedSimpArgs false
namespace Go.Vl
open Go Go.Proofs


theorem getD_at {l : List (List Nat)} {k : Nat} (h : k < l.length) : l.getD k [] = l[k] := by simp [List.getD, h]
theorem sat.newline {k b E} {X O : SP} {l : List Value} {g : Gh} {w : World} (h : sat g w (X * O * pt b (cl l E))) (hl : l.length = k) : sat g w (X * Sl k (.slice (some ⟨b, 0, none⟩) 1 1) 1 l) :=
  sl_new (k := k) h.drop2 (Nat.le_refl _) (by omega) (List.take_of_length_le (by omega))

theorem goes_f (F : SP) (d c : Nat) (s : DevS) (a : Option Addr) (keep : List Int) (hr : Rd F a (ints keep)) (hk : ∀ k ∈ keep, 0 ≤ k ∧ k ≤ 9223372036854775807) (hkl : keep.length ≤ 17592186044416) :
    Fn Try.prog 92 #[.pointer (some ⟨d, 0, none⟩), .slice a keep.length c] (F * Dev d s) (fun r B => r = .tuple #[] ∧ B = F * Dev d (goesS keep s)) := by
  refine fn_enterW (args := [.pointer (some ⟨d, 0, none⟩), .slice a keep.length c]) Try.func92 rfl Try.ntmps92 (by simp) ?_
  refine tc_dev fun hw bl svs av kvs hsv hkv => ?_
  have hpos := hw.pos
  have htop := hw.top
  refine tc_seq ?_
  refine tc_seq ?_
  refine tc_reg ?_
  refine tl_v rfl (o_move rfl) ?_
  refine tl_v rfl (o_nilCheck rfl) ?_
  refine tl_v rfl (o_fieldAddr (o := 0) Try.underlying97 rfl rfl sz95 rfl) ?_
  refine tl_v rfl (o_load p95 rfl devC_d rfl) ?_
  refine tl_v rfl (o_len Try.underlying95 rfl) ?_
  refine tl_v rfl (o_move rfl) ?_
  refine tl_nil ?_
  refine q_then_n ?_
  refine tc_block ?_
  refine tc_loop (fun k ρ B => ∃ (i : Nat) (svs' : List Value), i ≤ s.ls.length ∧ k = s.ls.length - i ∧ svs'.length = s.ls.length ∧ ρ 0 = .pointer (some ⟨d, 0, none⟩) ∧ ρ 1 = .slice a keep.length c ∧ ρ 11 = .int .i64 s.ls.length ∧ ρ 12 = .int .i64 i ∧ B = F * DevC d bl svs' av kvs { s with ls := goPart keep i s.ls }) (m := s.ls.length) ?_ ?_
  · exact ⟨0, svs, by omega, rfl, hsv, rfl, rfl, rfl, rfl, by rw [goPart_zero]⟩
  · intro k ρ B hI
    obtain ⟨i, svs', hi, rfl, hsv', h0, h1, h11, h12, rfl⟩ := hI
    refine tc_env (d := 0) h0 ?_
    refine tc_env (d := 1) h1 ?_
    refine tc_env (d := 11) h11 ?_
    refine tc_env (d := 12) h12 ?_
    refine tc_seq ?_
    refine tc_reg ?_
    refine tl_v rfl (o_lss rfl rfl) ?_
    refine tl_nil ?_
    refine q_then_n ?_
    refine tc_seq ?_
    refine tc_cond rfl (fun h => ?_) (fun h => ?_)
    · simp only [decide_eq_true_eq] at h
      have hi' : i < s.ls.length := by omega
      have hiG : i < (goPart keep i s.ls).length := by rw [goPart_length]; exact hi'
      have hsG : svs'.length = (goPart keep i s.ls).length := by rw [goPart_length]; exact hsv'
      obtain ⟨R, hf1, hf2⟩ := devC_focus (d := d) (bl := bl) (kvs := kvs) (av := av) (s := { s with ls := goPart keep i s.ls }) hsG hiG
      refine tc_eq (hf1 F) ?_
      refine tc_have (fun _ _ h => sl_have' rfl h) fun ⟨a', c', hv, hn', hl', hrd⟩ => ?_
      have hwl : WfL s.ls[i] := hw.line _ (List.getElem_mem _)
      have hat : (goPart keep i s.ls)[i] = s.ls[i] := goPart_at keep hi'
      simp only [hat] at hv hn' hl' hrd ⊢
      have hcell : (lcs svs' (goPart keep i s.ls))[0 + i * 2 + 0]? = some (.slice a' s.ls[i].st.length c') := by rw [Nat.zero_add, Nat.add_zero, lcs_sv hsG (by omega), hv]
      have hlen : 0 < s.ls[i].st.length := List.length_pos_iff.2 hwl.ne
      have hsm := hwl.small
      have hglen : (goPart keep i s.ls).length = s.ls.length := goPart_length _ _ _
      refine tc_skip ?_
      refine q_then_n ?_
      refine tc_seq ?_
      refine tc_block ?_
      refine tc_seq ?_
      refine tc_reg ?_
      refine tl_v rfl (o_move rfl) ?_
      refine tl_v rfl (o_assign rfl) ?_
      refine tl_nil ?_
      refine q_then_n ?_
      refine tc_seq ?_
      refine tc_reg ?_
      refine tl_v rfl (o_move rfl) ?_
      refine tl_v rfl (o_nilCheck rfl) ?_
      refine tl_v rfl (o_fieldAddr (o := 0) Try.underlying97 rfl rfl sz95 rfl) ?_
      refine tl_v rfl (o_load p95 rfl (by repeat (first | exact has_here | exact has_pt | apply has_left)) rfl) ?_
      refine tl_v rfl (o_move rfl) ?_
      refine tl_v rfl (o_indexAddrN Try.underlying95 sz150 rfl rfl (by omega)) ?_
      refine tl_v rfl (o_assign rfl) ?_
      refine tl_nil ?_
      refine q_then_n ?_
      refine tc_seq ?_
      refine tc_reg ?_
      refine tl_v rfl (o_assign rfl) ?_
      refine tl_nil ?_
      refine q_then_n ?_
      refine tc_seq ?_
      refine tc_seq ?_
      refine tc_reg ?_
      refine tl_v rfl (o_move rfl) ?_
      refine tl_v rfl (o_move rfl) ?_
      refine tl_v rfl (o_len Try.underlying37 rfl) ?_
      refine tl_v rfl (o_lss rfl rfl) ?_
      refine tl_nil ?_
      refine q_then_n ?_
      refine tc_cond rfl (fun h => ?_) (fun h => ?_)
      · try simp only [decide_eq_true_eq, decide_eq_false_iff_not, Bool.not_eq_true', Bool.not_eq_false', Option.isNone_some, Option.isNone_none, Bool.not_true, Bool.not_false] at h
        refine tc_regq mo (by kernel_rfl) ?_
        refine ql_v rfl (o_move rfl) ?_
        refine ql_v rfl (o_move rfl) ?_
        have hik : i < keep.length := by omega
        obtain ⟨b1, o1, rfl, hc1⟩ := hr.some (by rw [ints_length]; omega)
        have g1 := hc1 i _ (ints_at hik)
        have hkk := hk _ (List.getElem_mem hik)
        refine ql_v rfl (by first | exact o_indexAddrN1 Try.underlying37 sz3 rfl rfl (by omega) | exact o_indexAddr1 Try.underlying37 sz3 rfl rfl (by omega) (by omega)) ?_
        refine ql_v rfl (o_loadC p3 rfl (by repeat (first | exact g1 | apply Cell.left))) ?_
        refine ql_v rfl (o_move rfl) ?_
        refine ql_v rfl (o_nilCheck rfl) ?_
        refine ql_v rfl (o_fieldAddr (o := 0) Try.underlying150 rfl rfl sz148 rfl) ?_
        refine ql_v rfl (o_load p148 rfl (by repeat (first | exact has_here | exact has_pt | apply has_left)) hcell) ?_
        refine ql_v rfl (o_len Try.underlying148 rfl) ?_
        refine ql_v rfl (o_remI rfl rfl (by omega)) ?_
        refine ql_v rfl (o_assign (v := .int .i64 ((kOf keep i s.ls[i].st.length : Nat) : Int)) (by show Value.int .i64 (keep[i] % (s.ls[i].st.length : Int)) = _; congr 1; unfold kOf; rw [dif_pos hik, Int.toNat_of_nonneg (Int.emod_nonneg _ (by omega))])) ?_
        refine ql_nil ?_
        refine q_then_n ?_
        refine tc_reg ?_
        refine tl_env (d := 6) (v := .int .i64 ((kOf keep i s.ls[i].st.length : Nat) : Int)) (by first | rfl | (show Value.int .i64 0 = _; congr 1; unfold kOf; rw [dif_neg (by omega)]; rfl)) ?_
        have hkl2 := kOf_lt (keep := keep) (i := i) hlen
        refine tl_v rfl (o_move rfl) ?_
        refine tl_v rfl (o_move rfl) ?_
        refine tl_v rfl (o_nilCheck rfl) ?_
        refine tl_v rfl (o_fieldAddr (o := 0) Try.underlying150 rfl rfl sz148 rfl) ?_
        refine tl_v rfl (o_load p148 rfl (by repeat (first | exact has_here | exact has_pt | apply has_left)) hcell) ?_
        refine tl_v rfl (o_move rfl) ?_
        obtain ⟨b2, o2, rfl, hcs⟩ := hrd.some (by rw [hl']; omega)
        have hst := hcs.sub (kOf keep i s.ls[i].st.length * 8) 8 (stc_at hwl.eight hkl2)
        have hl8 : (wds s.ls[i].st[kOf keep i s.ls[i].st.length]).length = 8 := by rw [wds_length]; exact hwl.eight _ (List.getElem_mem _)
        refine tl_v rfl (by first | exact o_indexAddrN Try.underlying148 sz147 rfl rfl (by omega) | exact o_indexAddr Try.underlying148 sz147 rfl rfl (by omega) (by omega)) ?_
        refine tl_v rfl (o_loadNC a147 sz147 rfl hl8 hst) ?_
        refine tl_x rfl (o_buildSliceK Try.underlying148 sz147 z147 rfl hl8 (by decide)) ?_
        rintro _ _ ⟨b43, rfl, rfl⟩
        refine tl_v rfl (o_buildS (l := [.slice (some ⟨b43, 0, none⟩) 1 1, .int .i64 (-1)]) Try.underlying150 z150 (pl150 Try.underlying150) rfl rfl) ?_
        refine tl_v rfl (o_nilCheck rfl) ?_
        refine tl_u rfl (o_storeN (l' := lcs (svs'.set i (.slice (some ⟨b43, 0, none⟩) 1 1)) ((goPart keep i s.ls).set i (goL keep i s.ls[i]))) sz150 rfl rfl rfl rfl (by rw [lcs_length hsG, hglen]; omega) (by rw [Nat.zero_add]; exact lcs_set (l := goL keep i s.ls[i]) hsG hiG) (by repeat (first | exact upd_here | exact upd_pt | apply upd_left))) ?_
        have hgl : (goL keep i s.ls[i]).st = [s.ls[i].st[kOf keep i s.ls[i].st.length]] := by unfold goL; rw [getD_at hkl2]
        refine tl_pre (fun _ _ h => h.newline hl8) ?_
        have hfin := hf2 F (.slice (some ⟨b43, 0, none⟩) 1 1) (goL keep i s.ls[i])
        simp only [hgl, stc_one, List.length_singleton] at hfin
        refine tl_eq hfin ?_
        simp only [goPart_set keep hi']
        refine tl_nil ?_
        refine q_block_n (q_then_n ?_)
        refine tc_reg ?_
        refine tl_v rfl (o_addI rfl rfl (by omega)) ?_
        refine tl_v rfl (o_move rfl) ?_
        refine tl_nil ?_
        refine q_then_n ?_
        exact ⟨_, by omega, i + 1, _, by omega, rfl, by rw [List.length_set]; exact hsv', rfl, rfl, rfl, rfl, rfl⟩
      · try simp only [decide_eq_true_eq, decide_eq_false_iff_not, Bool.not_eq_true', Bool.not_eq_false', Option.isNone_some, Option.isNone_none, Bool.not_true, Bool.not_false] at h
        refine tc_skip ?_
        refine q_then_n ?_
        refine tc_reg ?_
        refine tl_env (d := 6) (v := .int .i64 ((kOf keep i s.ls[i].st.length : Nat) : Int)) (by first | rfl | (show Value.int .i64 0 = _; congr 1; unfold kOf; rw [dif_neg (by omega)]; rfl)) ?_
        have hkl2 := kOf_lt (keep := keep) (i := i) hlen
        refine tl_v rfl (o_move rfl) ?_
        refine tl_v rfl (o_move rfl) ?_
        refine tl_v rfl (o_nilCheck rfl) ?_
        refine tl_v rfl (o_fieldAddr (o := 0) Try.underlying150 rfl rfl sz148 rfl) ?_
        refine tl_v rfl (o_load p148 rfl (by repeat (first | exact has_here | exact has_pt | apply has_left)) hcell) ?_
        refine tl_v rfl (o_move rfl) ?_
        obtain ⟨b2, o2, rfl, hcs⟩ := hrd.some (by rw [hl']; omega)
        have hst := hcs.sub (kOf keep i s.ls[i].st.length * 8) 8 (stc_at hwl.eight hkl2)
        have hl8 : (wds s.ls[i].st[kOf keep i s.ls[i].st.length]).length = 8 := by rw [wds_length]; exact hwl.eight _ (List.getElem_mem _)
        refine tl_v rfl (by first | exact o_indexAddrN Try.underlying148 sz147 rfl rfl (by omega) | exact o_indexAddr Try.underlying148 sz147 rfl rfl (by omega) (by omega)) ?_
        refine tl_v rfl (o_loadNC a147 sz147 rfl hl8 hst) ?_
        refine tl_x rfl (o_buildSliceK Try.underlying148 sz147 z147 rfl hl8 (by decide)) ?_
        rintro _ _ ⟨b43, rfl, rfl⟩
        refine tl_v rfl (o_buildS (l := [.slice (some ⟨b43, 0, none⟩) 1 1, .int .i64 (-1)]) Try.underlying150 z150 (pl150 Try.underlying150) rfl rfl) ?_
        refine tl_v rfl (o_nilCheck rfl) ?_
        refine tl_u rfl (o_storeN (l' := lcs (svs'.set i (.slice (some ⟨b43, 0, none⟩) 1 1)) ((goPart keep i s.ls).set i (goL keep i s.ls[i]))) sz150 rfl rfl rfl rfl (by rw [lcs_length hsG, hglen]; omega) (by rw [Nat.zero_add]; exact lcs_set (l := goL keep i s.ls[i]) hsG hiG) (by repeat (first | exact upd_here | exact upd_pt | apply upd_left))) ?_
        have hgl : (goL keep i s.ls[i]).st = [s.ls[i].st[kOf keep i s.ls[i].st.length]] := by unfold goL; rw [getD_at hkl2]
        refine tl_pre (fun _ _ h => h.newline hl8) ?_
        have hfin := hf2 F (.slice (some ⟨b43, 0, none⟩) 1 1) (goL keep i s.ls[i])
        simp only [hgl, stc_one, List.length_singleton] at hfin
        refine tl_eq hfin ?_
        simp only [goPart_set keep hi']
        refine tl_nil ?_
        refine q_block_n (q_then_n ?_)
        refine tc_reg ?_
        refine tl_v rfl (o_addI rfl rfl (by omega)) ?_
        refine tl_v rfl (o_move rfl) ?_
        refine tl_nil ?_
        refine q_then_n ?_
        exact ⟨_, by omega, i + 1, _, by omega, rfl, by rw [List.length_set]; exact hsv', rfl, rfl, rfl, rfl, rfl⟩
    · try simp only [decide_eq_true_eq, decide_eq_false_iff_not, Bool.not_eq_true', Bool.not_eq_false', Option.isNone_some, Option.isNone_none, Bool.not_true, Bool.not_false] at h
      refine tc_exit ?_
      refine q_then_e (q_then_e (q_block_x (q_then_n ?_)))
      refine tc_reg ?_
      obtain rfl : i = s.ls.length := by omega
      refine tl_v rfl (o_move rfl) ?_
      refine tl_v rfl (o_nilCheck rfl) ?_
      refine tl_v rfl (o_fieldAddr (o := 4) Try.underlying97 rfl rfl sz4 rfl) ?_
      refine tl_u rfl (o_store sz4 rfl rfl rfl (by show 4 < 5; decide) rfl (devC_upd s.ops s.cnt true)) ?_
      refine tl_nil ?_
      exact ⟨_, _, res0 rfl, dev_back (goesS_wf hw) (by simp [goesS, goPart_length]; exact hsv') hkv, rfl, rfl⟩

end Go.Vl
