/- Walks of package pmem: the fence; a new device. Conditions: none. -/
import Derived.Test.YtimckjnnjakcoaaPmem9
set_option linter.unusedVariables false
set_option linter.unusedSimpArgs false
namespace Go.Vl
open Go Go.Proofs


section
variable {P : Program} {n : Nat} {ρ : Env} {A : SP} {dst : Option Tmp} {ty : TypeId} {pos : String} {after : Array Edge} {gd : Option (Nat × Bool)}
theorem o_sliceLt {t e : TypeId} {x : Operand} {lo hi : Option Operand} {b o : Nat} {len cap l h k : Nat} (hu : P.underlying t = some (.slice e)) (hk : szE P e = some k) (hx : ev n ρ x = .slice (some ⟨b, o, none⟩) len cap)
    (hl : bnd n ρ lo 0 l) (hh : bnd n ρ hi len h) (h1 : l ≤ h) (h2 : h ≤ cap) (h3 : l < cap) :
    OpV P n ρ A ⟨dst, .slice t x lo hi none, ty, pos, after, gd⟩ (.slice (some ⟨b, o + l * k, none⟩) (h - l) (cap - l)) := by
  have := o_slice (A := A) (dst := dst) (ty := ty) (pos := pos) (after := after) (gd := gd) hu hk hx hl hh h1 h2
  rwa [cut_lt h3] at this
end
theorem lcs_set_sv' {vs : List Value} {ls : List LineS} {i : Nat} {v : Value} (h : vs.length = ls.length) (hi : i < ls.length) : (lcs vs ls).set (i * 2) v = lcs (vs.set i v) ls := by
  have := lcs_set_sv (v := v) ls[i] h hi rfl
  rwa [set_getElem hi] at this

theorem Fence_f (F : SP) (d : Nat) (s : DevS) :
    Fn Try.prog 47 #[.pointer (some ⟨d, 0, none⟩)] (F * Dev d s) (fun r B => r = .int .i64 (fe s).1 ∧ B = F * Dev d (fe s).2) := by
  refine fn_enterW (args := [.pointer (some ⟨d, 0, none⟩)]) Try.func47 rfl Try.ntmps47 (by simp) ?_
  refine tc_dev fun hw bl svs av kvs hsv hkv => ?_
  have hpos := hw.pos
  have htop := hw.top
  refine tc_seq ?_
  refine tc_reg ?_
  refine tl_v rfl (o_assign rfl) ?_
  refine tl_nil ?_
  refine q_then_n ?_
  refine tc_seq ?_
  refine tc_seq ?_
  refine tc_reg ?_
  refine tl_v rfl (o_move rfl) ?_
  refine tl_c rfl (o_call bd88 rfl (ready_f _ d bl s.ls.length s av dev_cells hpos htop 0 0 (by omega) (by omega))) ?_
  rintro _ _ ⟨rfl, rfl⟩
  refine tl_v rfl (o_assign rfl) ?_
  refine tl_nil ?_
  refine q_then_n ?_
  refine tc_seq ?_
  refine tc_reg ?_
  refine tl_v rfl (o_move rfl) ?_
  refine tl_v rfl (o_nei rfl rfl) ?_
  refine tl_nil ?_
  refine q_then_n ?_
  refine tc_cond rfl (fun h => ?_) (fun h => ?_)
  · rw [rdy00] at h
    have ho : s.off = true := by
      cases ho : s.off with
      | true => rfl
      | false => rw [ho] at h; simp at h
    refine tc_seq ?_
    refine tc_reg ?_
    refine tl_v rfl (o_move rfl) ?_
    refine tl_v rfl (o_assign rfl) ?_
    refine tl_nil ?_
    refine q_then_n ?_
    refine tc_ret ?_
    refine q_then_r ?_
    exact ⟨.int .i64 5, _, res1 rfl (by show Value.int .i64 (rdy _ _ _ _) = _; rw [rdy00, ho]; rfl), dev_back hw hsv hkv, by unfold fe; rw [if_pos ho], by unfold fe; rw [if_pos ho]⟩
  · rw [rdy00] at h
    have ho : s.off = false := by
      cases ho : s.off with
      | false => rfl
      | true => rw [ho] at h; simp at h
    refine tc_skip ?_
    refine q_then_n ?_
    refine tc_seq ?_
    refine tc_seq ?_
    refine tc_reg ?_
    refine tl_v rfl (o_move rfl) ?_
    refine tl_v rfl (o_nilCheck rfl) ?_
    refine tl_v rfl (o_fieldAddr (o := 0) Try.underlying97 rfl rfl sz95 rfl) ?_
    refine tl_v rfl (o_load p95 rfl devC_d rfl) ?_
    refine tl_v rfl (o_len Try.underlying95 rfl) ?_
    refine tl_v rfl (o_move rfl) ?_
    refine tl_nil ?_
    refine q_then_n ?_
    refine tc_block ?_
    refine tc_loop (fun k ρ B => ∃ (i : Nat) (svs' : List Value), i ≤ s.ls.length ∧ k = s.ls.length - i ∧ svs'.length = s.ls.length ∧ ρ 0 = .pointer (some ⟨d, 0, none⟩) ∧ ρ 15 = .int .i64 s.ls.length ∧ ρ 16 = .int .i64 i ∧ B = F * DevC d bl svs' av kvs { s with ls := mp fenceL i s.ls }) (m := s.ls.length) ?_ ?_
    · exact ⟨0, svs, by omega, rfl, hsv, rfl, rfl, rfl, by rw [mp_zero]⟩
    · intro k ρ B hI
      obtain ⟨i, svs', hi, rfl, hsv', h0, h15, h16, rfl⟩ := hI
      refine tc_env (d := 0) h0 ?_
      refine tc_env (d := 15) h15 ?_
      refine tc_env (d := 16) h16 ?_
      refine tc_seq ?_
      refine tc_reg ?_
      refine tl_v rfl (o_lss rfl rfl) ?_
      refine tl_nil ?_
      refine q_then_n ?_
      refine tc_seq ?_
      refine tc_cond rfl (fun h => ?_) (fun h => ?_)
      · simp only [decide_eq_true_eq] at h
        have hi' : i < s.ls.length := by omega
        have hiG : i < (mp fenceL i s.ls).length := by rw [mp_length]; exact hi'
        have hsG : svs'.length = (mp fenceL i s.ls).length := by rw [mp_length]; exact hsv'
        obtain ⟨R, hf1, hf2⟩ := devC_focus (d := d) (bl := bl) (kvs := kvs) (av := av) (s := { s with ls := mp fenceL i s.ls }) hsG hiG
        refine tc_eq (hf1 F) ?_
        refine tc_have (fun _ _ h => sl_have' rfl h) fun ⟨a', c', hv, hn', hl', hrd⟩ => ?_
        have hwl : WfL s.ls[i] := hw.line _ (List.getElem_mem _)
        have hat : (mp fenceL i s.ls)[i] = s.ls[i] := mp_at fenceL hi'
        simp only [hat] at hv hn' hl' hrd ⊢
        have hcell : (lcs svs' (mp fenceL i s.ls))[0 + i * 2 + 0]? = some (.slice a' s.ls[i].st.length c') := by rw [Nat.zero_add, Nat.add_zero, lcs_sv hsG (by omega), hv]
        have hmk : (lcs svs' (mp fenceL i s.ls))[0 + i * 2 + 1]? = some (.int .i64 s.ls[i].mark) := by rw [Nat.zero_add, lcs_mark hsG hiG, hat]
        have hlen : 0 < s.ls[i].st.length := List.length_pos_iff.2 hwl.ne
        have hsm := hwl.small
        have hmlo := hwl.lo
        have hmhi := hwl.hi
        have hglen : (mp fenceL i s.ls).length = s.ls.length := mp_length _ _ _
        refine tc_skip ?_
        refine q_then_n ?_
        refine tc_seq ?_
        refine tc_block ?_
        refine tc_seq ?_
        refine tc_reg ?_
        refine tl_v rfl (o_move rfl) ?_
        refine tl_v rfl (o_assign rfl) ?_
        refine tl_nil ?_
        refine q_then_n ?_
        refine tc_seq ?_
        refine tc_reg ?_
        refine tl_v rfl (o_move rfl) ?_
        refine tl_v rfl (o_nilCheck rfl) ?_
        refine tl_v rfl (o_fieldAddr (o := 0) Try.underlying97 rfl rfl sz95 rfl) ?_
        refine tl_v rfl (o_load p95 rfl (by repeat (first | exact has_here | exact has_pt | apply has_left)) rfl) ?_
        refine tl_v rfl (o_move rfl) ?_
        refine tl_v rfl (o_indexAddrN Try.underlying95 sz150 rfl rfl (by omega)) ?_
        refine tl_v rfl (o_assign rfl) ?_
        refine tl_nil ?_
        refine q_then_n ?_
        refine tc_seq ?_
        refine tc_reg ?_
        refine tl_v rfl (o_move rfl) ?_
        refine tl_v rfl (o_nilCheck rfl) ?_
        refine tl_v rfl (o_fieldAddr (o := 1) Try.underlying150 rfl rfl sz3 rfl) ?_
        refine tl_v rfl (o_load p3 rfl (by repeat (first | exact has_here | exact has_pt | apply has_left)) hmk) ?_
        refine tl_v rfl (o_geq rfl rfl) ?_
        refine tl_nil ?_
        refine q_then_n ?_
        refine tc_cond rfl (fun h => ?_) (fun h => ?_)
        · simp only [decide_eq_true_eq] at h
          obtain ⟨m, hm⟩ := Int.eq_ofNat_of_zero_le (show 0 ≤ s.ls[i].mark by omega)
          have hmn : m < s.ls[i].st.length := by omega
          obtain ⟨b, o, rfl, hcs⟩ := hrd.some (by rw [hl']; omega)
          have hfl : fenceL s.ls[i] = ⟨s.ls[i].st.drop m, -1⟩ := by unfold fenceL; rw [if_pos (by omega), hm]; rfl
          have hdl : (stc (s.ls[i].st.drop m)).length = (s.ls[i].st.length - m) * 8 := by rw [stc_length (fun x hx => hwl.eight x (List.mem_of_mem_drop hx)), List.length_drop]
          have hsub := hcs.sub (m * 8) ((s.ls[i].st.length - m) * 8) (show ((stc s.ls[i].st).drop (m * 8)).take ((s.ls[i].st.length - m) * 8) = stc (s.ls[i].st.drop m) by rw [stc_drop hwl.eight m (by omega), List.take_of_length_le (by omega)])
          have hcut := cut_lt (b := b) (o := o) (k := 8) (show m < c' by omega)
          have hoc : (stc (s.ls[i].st.drop m)).all oneC = true := by
            rw [List.all_eq_true]; intro x hx
            simp only [stc, List.mem_flatMap, wds, List.mem_map] at hx
            obtain ⟨_, _, _, _, rfl⟩ := hx
            rfl
          refine tc_seq ?_
          refine tc_rega mo ?_
          show TA _ _ _ _ 14 #[false, false, false, false, false, false, false, false, false, false, false, false, false, false] _ _
          refine ta_pure (i := 0) (listed' := #[true, false, false, false, false, false, false, false, false, false, false, false, false, false]) rfl (by kernel_rfl) (by kernel_rfl) (by kernel_rfl) rfl rfl (o_move rfl) ?_
          refine ta_pure (i := 1) (listed' := #[true, true, false, false, false, false, false, false, false, false, false, false, false, false]) rfl (by kernel_rfl) (by kernel_rfl) (by kernel_rfl) rfl rfl (o_move rfl) ?_
          refine ta_pure (i := 2) (listed' := #[true, true, true, false, false, false, false, false, false, false, false, false, false, false]) rfl (by kernel_rfl) (by kernel_rfl) (by kernel_rfl) rfl rfl (o_nilCheck rfl) ?_
          refine ta_pure (i := 3) (listed' := #[true, true, true, true, false, false, false, false, false, false, false, false, false, false]) rfl (by kernel_rfl) (by kernel_rfl) (by kernel_rfl) rfl rfl (o_fieldAddr (o := 0) Try.underlying150 rfl rfl sz148 rfl) ?_
          refine ta_pure (i := 5) (listed' := #[true, true, true, true, false, true, false, false, false, false, false, false, false, false]) rfl (by kernel_rfl) (by kernel_rfl) (by kernel_rfl) rfl rfl (o_move rfl) ?_
          refine ta_pure (i := 6) (listed' := #[true, true, true, true, false, true, true, false, false, false, false, false, false, false]) rfl (by kernel_rfl) (by kernel_rfl) (by kernel_rfl) rfl rfl (o_nilCheck rfl) ?_
          refine ta_pure (i := 7) (listed' := #[true, true, true, true, false, true, true, true, false, false, false, false, false, false]) rfl (by kernel_rfl) (by kernel_rfl) (by kernel_rfl) rfl rfl (o_fieldAddr (o := 1) Try.underlying150 rfl rfl sz3 rfl) ?_
          refine ta_two (i := 4) (j := 8) (by kernel_rfl) ?_ ?_
          · skip
            refine oa_v (i := 4) (listed' := #[true, true, true, true, true, true, true, true, false, false, false, false, false, false]) rfl rfl rfl (o_load p148 rfl (by repeat (first | exact has_here | exact has_pt | apply has_left)) hcell) ?_
            refine ta_one (i := 8) (by kernel_rfl) ?_
            refine oa_v (i := 8) (listed' := #[true, true, true, true, true, true, true, true, true, false, false, false, false, false]) rfl rfl rfl (o_load p3 rfl (by repeat (first | exact has_here | exact has_pt | apply has_left)) (hmk.trans (by rw [hm]))) ?_
            refine ta_pure (i := 9) (listed' := #[true, true, true, true, true, true, true, true, true, true, false, false, false, false]) rfl (by kernel_rfl) (by kernel_rfl) (by kernel_rfl) rfl rfl (o_sliceLt (l := m) (h := s.ls[i].st.length) Try.underlying148 sz147 rfl (bnd_nat (r := m) rfl) bnd_none (by omega) (by omega) (by omega)) ?_
            refine ta_one (i := 10) (by kernel_rfl) ?_
            refine oa_c (i := 10) (listed' := #[true, true, true, true, true, true, true, true, true, true, true, false, false, false]) rfl rfl rfl (o_call bd95 rfl (CloneS_f _ (s.ls[i].st.length - m) (c' - m) (stc (s.ls[i].st.drop m)) ⟨b, o + m * 8, none⟩ (rd_cells hsub) hdl hoc (by omega))) ?_
            rintro u40 _ rfl
            refine ta_have (fun _ _ h => sl_have h) fun ⟨_, _, hu, _, _, _⟩ => ?_
            have hu1 : oneC u40 = true := by rw [hu]; rfl
            refine ta_pre (fun _ _ h => h.drop2) ?_
            refine ta_pure (i := 11) (listed' := #[true, true, true, true, true, true, true, true, true, true, true, true, false, false]) rfl (by kernel_rfl) (by kernel_rfl) (by kernel_rfl) rfl rfl (o_nilCheck rfl) ?_
            refine ta_pure (i := 12) (listed' := #[true, true, true, true, true, true, true, true, true, true, true, true, true, false]) rfl (by kernel_rfl) (by kernel_rfl) (by kernel_rfl) rfl rfl (o_fieldAddr (o := 0) Try.underlying150 rfl rfl sz148 rfl) ?_
            refine ta_one (i := 13) (by kernel_rfl) ?_
            refine oa_u (i := 13) (listed' := #[true, true, true, true, true, true, true, true, true, true, true, true, true, true]) rfl rfl rfl (o_store (l := lcs svs' (mp fenceL i s.ls)) (l' := lcs (svs'.set i u40) (mp fenceL i s.ls)) sz148 rfl rfl hu1 (by rw [lcs_length hsG, hglen]; omega) (by rw [Nat.zero_add, Nat.add_zero]; exact lcs_set_sv' hsG hiG) (by repeat (first | exact upd_here | exact upd_pt | apply upd_left))) ?_
            refine ta_done (by kernel_rfl) ?_
            refine q_then_n ?_
            refine tc_reg ?_
            refine tl_v rfl (o_move rfl) ?_
            refine tl_v rfl (o_nilCheck rfl) ?_
            refine tl_v rfl (o_fieldAddr (o := 1) Try.underlying150 rfl rfl sz3 rfl) ?_
            refine tl_u rfl (o_store (l := lcs (svs'.set i u40) (mp fenceL i s.ls)) (l' := lcs (svs'.set i u40) ((mp fenceL i s.ls).set i (fenceL s.ls[i]))) sz3 rfl rfl rfl (by rw [lcs_length (by rw [List.length_set]; exact hsG), hglen]; omega) (by rw [Nat.zero_add]; have := lcs_set_mark (fenceL s.ls[i]) (vs := svs'.set i u40) (by rw [List.length_set]; exact hsG) hiG; rw [hfl] at this ⊢; exact this) (by repeat (first | exact upd_here | exact upd_pt | apply upd_left))) ?_
            refine tl_nil ?_
            refine q_block_n (q_then_n ?_)
            refine tc_reg ?_
            have hfin := hf2 F u40 (fenceL s.ls[i])
            have hdl2 : (s.ls[i].st.drop m).length = s.ls[i].st.length - m := List.length_drop
            rw [show (fenceL s.ls[i]).st = s.ls[i].st.drop m by rw [hfl], hdl2] at hfin
            refine tl_eq hfin ?_
            simp only [mp_set fenceL hi']
            have hsvN : (svs'.set i u40).length = s.ls.length := by rw [List.length_set]; exact hsv'
            refine tl_v rfl (by first | exact o_addI rfl rfl (by omega) | exact o_add rfl rfl) ?_
            refine tl_v rfl (o_move rfl) ?_
            refine tl_nil ?_
            refine q_then_n ?_
            exact ⟨_, by omega, i + 1, _, by omega, rfl, hsvN, rfl, rfl, rfl, rfl⟩
          · skip
            refine oa_v (i := 8) (listed' := #[true, true, true, true, false, true, true, true, true, false, false, false, false, false]) rfl rfl rfl (o_load p3 rfl (by repeat (first | exact has_here | exact has_pt | apply has_left)) (hmk.trans (by rw [hm]))) ?_
            refine ta_one (i := 4) (by kernel_rfl) ?_
            refine oa_v (i := 4) (listed' := #[true, true, true, true, true, true, true, true, true, false, false, false, false, false]) rfl rfl rfl (o_load p148 rfl (by repeat (first | exact has_here | exact has_pt | apply has_left)) hcell) ?_
            refine ta_pure (i := 9) (listed' := #[true, true, true, true, true, true, true, true, true, true, false, false, false, false]) rfl (by kernel_rfl) (by kernel_rfl) (by kernel_rfl) rfl rfl (o_sliceLt (l := m) (h := s.ls[i].st.length) Try.underlying148 sz147 rfl (bnd_nat (r := m) rfl) bnd_none (by omega) (by omega) (by omega)) ?_
            refine ta_one (i := 10) (by kernel_rfl) ?_
            refine oa_c (i := 10) (listed' := #[true, true, true, true, true, true, true, true, true, true, true, false, false, false]) rfl rfl rfl (o_call bd95 rfl (CloneS_f _ (s.ls[i].st.length - m) (c' - m) (stc (s.ls[i].st.drop m)) ⟨b, o + m * 8, none⟩ (rd_cells hsub) hdl hoc (by omega))) ?_
            rintro u40 _ rfl
            refine ta_have (fun _ _ h => sl_have h) fun ⟨_, _, hu, _, _, _⟩ => ?_
            have hu1 : oneC u40 = true := by rw [hu]; rfl
            refine ta_pre (fun _ _ h => h.drop2) ?_
            refine ta_pure (i := 11) (listed' := #[true, true, true, true, true, true, true, true, true, true, true, true, false, false]) rfl (by kernel_rfl) (by kernel_rfl) (by kernel_rfl) rfl rfl (o_nilCheck rfl) ?_
            refine ta_pure (i := 12) (listed' := #[true, true, true, true, true, true, true, true, true, true, true, true, true, false]) rfl (by kernel_rfl) (by kernel_rfl) (by kernel_rfl) rfl rfl (o_fieldAddr (o := 0) Try.underlying150 rfl rfl sz148 rfl) ?_
            refine ta_one (i := 13) (by kernel_rfl) ?_
            refine oa_u (i := 13) (listed' := #[true, true, true, true, true, true, true, true, true, true, true, true, true, true]) rfl rfl rfl (o_store (l := lcs svs' (mp fenceL i s.ls)) (l' := lcs (svs'.set i u40) (mp fenceL i s.ls)) sz148 rfl rfl hu1 (by rw [lcs_length hsG, hglen]; omega) (by rw [Nat.zero_add, Nat.add_zero]; exact lcs_set_sv' hsG hiG) (by repeat (first | exact upd_here | exact upd_pt | apply upd_left))) ?_
            refine ta_done (by kernel_rfl) ?_
            refine q_then_n ?_
            refine tc_reg ?_
            refine tl_v rfl (o_move rfl) ?_
            refine tl_v rfl (o_nilCheck rfl) ?_
            refine tl_v rfl (o_fieldAddr (o := 1) Try.underlying150 rfl rfl sz3 rfl) ?_
            refine tl_u rfl (o_store (l := lcs (svs'.set i u40) (mp fenceL i s.ls)) (l' := lcs (svs'.set i u40) ((mp fenceL i s.ls).set i (fenceL s.ls[i]))) sz3 rfl rfl rfl (by rw [lcs_length (by rw [List.length_set]; exact hsG), hglen]; omega) (by rw [Nat.zero_add]; have := lcs_set_mark (fenceL s.ls[i]) (vs := svs'.set i u40) (by rw [List.length_set]; exact hsG) hiG; rw [hfl] at this ⊢; exact this) (by repeat (first | exact upd_here | exact upd_pt | apply upd_left))) ?_
            refine tl_nil ?_
            refine q_block_n (q_then_n ?_)
            refine tc_reg ?_
            have hfin := hf2 F u40 (fenceL s.ls[i])
            have hdl2 : (s.ls[i].st.drop m).length = s.ls[i].st.length - m := List.length_drop
            rw [show (fenceL s.ls[i]).st = s.ls[i].st.drop m by rw [hfl], hdl2] at hfin
            refine tl_eq hfin ?_
            simp only [mp_set fenceL hi']
            have hsvN : (svs'.set i u40).length = s.ls.length := by rw [List.length_set]; exact hsv'
            refine tl_v rfl (by first | exact o_addI rfl rfl (by omega) | exact o_add rfl rfl) ?_
            refine tl_v rfl (o_move rfl) ?_
            refine tl_nil ?_
            refine q_then_n ?_
            exact ⟨_, by omega, i + 1, _, by omega, rfl, hsvN, rfl, rfl, rfl, rfl⟩
        · try simp only [decide_eq_true_eq, decide_eq_false_iff_not, Bool.not_eq_true', Bool.not_eq_false', Option.isNone_some, Option.isNone_none, Bool.not_true, Bool.not_false] at h
          refine tc_skip ?_
          refine q_block_n (q_then_n ?_)
          refine tc_reg ?_
          have hfl : fenceL s.ls[i] = s.ls[i] := by unfold fenceL; rw [if_neg (by omega)]
          have hun := (hf1 F).symm
          simp only [hat] at hun
          refine tl_eq hun ?_
          rw [← mp_same fenceL hi' hfl]
          have hsvN := hsv'
          refine tl_v rfl (by first | exact o_addI rfl rfl (by omega) | exact o_add rfl rfl) ?_
          refine tl_v rfl (o_move rfl) ?_
          refine tl_nil ?_
          refine q_then_n ?_
          exact ⟨_, by omega, i + 1, _, by omega, rfl, hsvN, rfl, rfl, rfl, rfl⟩
      · try simp only [decide_eq_true_eq, decide_eq_false_iff_not, Bool.not_eq_true', Bool.not_eq_false', Option.isNone_some, Option.isNone_none, Bool.not_true, Bool.not_false] at h
        refine tc_exit ?_
        refine q_then_e (q_then_e (q_block_x (q_then_n ?_)))
        refine tc_seq ?_
        refine tc_reg ?_
        refine tl_v rfl (o_move rfl) ?_
        obtain rfl : i = s.ls.length := by omega
        rw [mp_map]
        refine tl_pre (dev_back (s := fenceS s) (fenceS_wf hw) (by simp [fenceS]; exact hsv') hkv) ?_
        refine tl_c rfl (o_call bd101 rfl (done_f F d (fenceS s))) ?_
        rintro _ _ ⟨rfl, rfl⟩
        refine tl_v rfl (o_assign rfl) ?_
        refine tl_nil ?_
        refine q_then_n ?_
        refine tc_ret ?_
        exact ⟨.int .i64 (doneE (fenceS s)), _, res1 rfl rfl, fun _ _ h => h, by unfold fe; rw [if_neg (by simp [ho])], by unfold fe; rw [if_neg (by simp [ho])]⟩

end Go.Vl
