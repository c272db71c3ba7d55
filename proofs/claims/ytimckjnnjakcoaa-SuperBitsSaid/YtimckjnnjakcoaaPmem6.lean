/- Walks of package pmem: a word is laid, stored; a line is flushed. Conditions: none. -/
import Derived.Test.YtimckjnnjakcoaaPmem5
set_option linter.unusedVariables false
set_option linter.unusedSimpArgs false
namespace Go.Vl
open Go Go.Proofs


section
variable {P : Program} {n : Nat} {ρ : Env} {A : SP} {dst : Option Tmp} {ty : TypeId} {pos : String} {after : Array Edge} {gd : Option (Nat × Bool)}
theorem o_quoN {t t' : TypeId} {x y : Operand} {a b : Nat} (hx : ev n ρ x = .int .i64 (a : Int)) (hy : ev n ρ y = .int .i64 (b : Int)) (h : 0 < b ∧ a ≤ 9223372036854775807) :
    OpV P n ρ A ⟨dst, .binOp .quo t x y t', ty, pos, after, gd⟩ (.int .i64 ((a / b : Nat) : Int)) := o_quoI hx hy (by omega)
theorem o_remN {t t' : TypeId} {x y : Operand} {k : IntKind} {a b : Nat} (hx : ev n ρ x = .int k (a : Int)) (hy : ev n ρ y = .int k (b : Int)) (h : 0 < b) :
    OpV P n ρ A ⟨dst, .binOp .rem t x y t', ty, pos, after, gd⟩ (.int k ((a % b : Nat) : Int)) := o_remI hx hy (by omega)
end
/-- What is seen of a line. -/
def seenL (l : LineS) : List Nat := l.st.getD (l.st.length - 1) []
def layL (k v : Nat) (l : LineS) : LineS := { l with st := l.st ++ [(seenL l).set k v] }
def onLine (f : LineS → LineS) (i : Nat) (s : DevS) : DevS := match s.ls[i]? with
  | some l => { s with ls := s.ls.set i (f l) }
  | none => s
theorem onLine_at {f : LineS → LineS} {i : Nat} {s : DevS} (h : i < s.ls.length) : onLine f i s = { s with ls := s.ls.set i (f s.ls[i]) } := by
  unfold onLine; rw [List.getElem?_eq_getElem h]
def layS (at_ v : Nat) (s : DevS) : DevS := onLine (layL (at_ % 64 / 8) v) (at_ / 64) s
/-- There is room for so many contents more in every line. -/
def Room (k : Nat) (s : DevS) : Prop := ∀ l ∈ s.ls, l.st.length + k ≤ 2199023255552
theorem seenL_eq {l : LineS} (h : 0 < l.st.length) : seenL l = l.st[l.st.length - 1] := by unfold seenL; rw [getD_at (by omega)]
theorem seenL_mem {l : LineS} (h : WfL l) : seenL l ∈ l.st := by
  have := List.length_pos_iff.2 h.ne
  rw [seenL_eq this]; exact List.getElem_mem _
theorem onLine_wf {f : LineS → LineS} {i : Nat} {s : DevS} (hw : WfD s) (h : ∀ l ∈ s.ls, WfL (f l)) : WfD (onLine f i s) := by
  unfold onLine
  cases e : s.ls[i]? with
  | none => exact hw
  | some l =>
    have hm := List.mem_of_getElem? e
    refine ⟨by simp; exact hw.pos, by simp; exact hw.top, fun x hx => ?_, hw.arms, hw.after, hw.keeps⟩
    rcases List.mem_or_eq_of_mem_set hx with h1 | rfl
    · exact hw.line x h1
    · exact h l hm
theorem layL_wf {k v : Nat} {l : LineS} (h : WfL l) (hr : l.st.length + 1 ≤ 2199023255552) (hv : v < 18446744073709551616) : WfL (layL k v l) := by
  have hm := seenL_mem h
  refine ⟨by simp [layL], ?_, h.lo, ?_, ?_, ?_⟩
  · intro x hx
    simp only [layL, List.mem_append, List.mem_singleton] at hx
    rcases hx with hx | rfl
    · exact h.eight x hx
    · rw [List.length_set]; exact h.eight _ hm
  · have := h.hi; simp only [layL, List.length_append, List.length_singleton]; omega
  · simpa [layL] using hr
  · intro x hx
    simp only [layL, List.mem_append, List.mem_singleton] at hx
    rcases hx with hx | rfl
    · exact h.words x hx
    · intro y hy
      rcases List.mem_or_eq_of_mem_set hy with h1 | rfl
      · exact h.words _ hm y h1
      · exact hv
theorem layS_wf {at_ v : Nat} {s : DevS} (hw : WfD s) (hr : Room 1 s) (hv : v < 18446744073709551616) : WfD (layS at_ v s) :=
  onLine_wf hw fun l hl => layL_wf (hw.line l hl) (hr l hl) hv
theorem wds_set (s : List Nat) (k v : Nat) : (wds s).set k (.int .u64 (v : Nat)) = wds (s.set k v) := by simp [wds, List.map_set]; rfl
theorem SP.drop_mid {g : Gh} {w : World} {X Y Z : SP} (h : sat g w (X * Y * Z)) : sat g w (X * Z) := h.drop2

theorem lay_f (F : SP) (d at_ v : Nat) (s : DevS) (hat : at_ / 64 < s.ls.length) (hv : v < 18446744073709551616) (hroom : Room 1 s) :
    Fn Try.prog 97 #[.pointer (some ⟨d, 0, none⟩), .int .i64 (at_ : Nat), .int .u64 (v : Nat)] (F * Dev d s) (fun r B => r = .int .i64 (doneE (layS at_ v s)) ∧ B = F * Dev d (doneS (layS at_ v s))) := by
  refine fn_enterW (args := [.pointer (some ⟨d, 0, none⟩), .int .i64 (at_ : Nat), .int .u64 (v : Nat)]) Try.func97 rfl Try.ntmps97 (by simp) ?_
  refine tc_dev fun hw bl svs av kvs hsv hkv => ?_
  have hpos := hw.pos
  have htop := hw.top
  obtain ⟨R, hf1, hf2⟩ := devC_focus (d := d) (bl := bl) (kvs := kvs) (av := av) (s := s) hsv hat
  refine tc_eq (hf1 F) ?_
  refine tc_have (fun _ _ h => sl_have' rfl h) fun ⟨a', c', hvv, hn', hl', hrd⟩ => ?_
  rw [hvv] at hrd ⊢
  have hwl : WfL s.ls[at_ / 64] := hw.line _ (List.getElem_mem _)
  have hlen : 0 < s.ls[at_ / 64].st.length := List.length_pos_iff.2 hwl.ne
  have hsm := hwl.small
  have hcell : (lcs svs s.ls)[0 + at_ / 64 * 2 + 0]? = some (.slice a' s.ls[at_ / 64].st.length c') := by rw [Nat.zero_add, Nat.add_zero, lcs_sv hsv (by omega), hvv]
  have hrm := hroom _ (List.getElem_mem hat)
  have hs8 := hwl.eight _ (seenL_mem hwl)
  have hse := seenL_eq hlen
  refine tc_seq ?_
  refine tc_reg ?_
  refine tl_v rfl (o_assign rfl) ?_
  refine tl_nil ?_
  refine q_then_n ?_
  refine tc_seq ?_
  refine tc_reg ?_
  refine tl_v rfl (o_move rfl) ?_
  refine tl_v rfl (o_nilCheck rfl) ?_
  refine tl_v rfl (o_fieldAddr (o := 0) Try.underlying97 rfl rfl sz95 rfl) ?_
  refine tl_v rfl (o_load p95 rfl (by repeat (first | exact has_here | exact has_pt | apply has_left)) rfl) ?_
  refine tl_v rfl (o_move rfl) ?_
  refine tl_v rfl (o_quoN (b := 64) rfl rfl (by omega)) ?_
  refine tl_v rfl (o_indexAddrN Try.underlying95 sz150 rfl rfl (by omega)) ?_
  refine tl_v rfl (o_assign rfl) ?_
  refine tl_nil ?_
  refine q_then_n ?_
  refine tc_seq ?_
  refine tc_reg ?_
  refine tl_v rfl (o_move rfl) ?_
  refine tl_c rfl (o_call bd89 rfl (seen_f _ bl (0 + at_ / 64 * 2) c' a' s.ls[at_ / 64].st (cell_of_has (by repeat (first | exact has_here | exact has_pt | apply has_left)) hcell) hrd hwl.eight hlen hsm)) ?_
  rintro _ _ ⟨rfl, rfl⟩
  refine tl_env (d := 17) (v := .agg (wds (seenL s.ls[at_ / 64])).toArray) (by rw [hse]; rfl) ?_
  refine tl_x rfl (o_alloc z147 rfl) ?_
  rintro _ _ ⟨b8, rfl, rfl⟩
  refine tl_u rfl (o_storeN (l' := wds (seenL s.ls[at_ / 64])) sz147 rfl rfl (by rw [wds_length]; exact hs8) (wds_all _) (by simp) (splice_all (by rw [wds_length, hs8]; rfl)) upd_here) ?_
  refine tl_nil ?_
  refine q_then_n ?_
  refine tc_seq ?_
  refine tc_reg ?_
  refine tl_v rfl (o_move rfl) ?_
  refine tl_v rfl (o_remN (b := 64) rfl rfl (by omega)) ?_
  refine tl_v rfl (o_quoN (b := 8) rfl rfl (by omega)) ?_
  refine tl_v rfl (o_move rfl) ?_
  refine tl_v rfl (o_indexAddrAN1 Try.underlying147 sz53 rfl rfl (by omega)) ?_
  refine tl_u rfl (o_store (l' := wds ((seenL s.ls[at_ / 64]).set (at_ % 64 / 8) v)) sz53 rfl rfl rfl (by rw [wds_length, hs8]; omega) (by rw [Nat.zero_add]; exact wds_set _ _ _) upd_here) ?_
  refine tl_nil ?_
  refine q_then_n ?_
  refine tc_seq ?_
  refine tc_rega mo ?_
  show TA _ _ _ _ 11 #[false, false, false, false, false, false, false, false, false, false, false] _ _
  refine ta_pure (i := 0) (listed' := #[true, false, false, false, false, false, false, false, false, false, false]) rfl (by kernel_rfl) (by kernel_rfl) (by kernel_rfl) rfl rfl (o_move rfl) ?_
  refine ta_pure (i := 1) (listed' := #[true, true, false, false, false, false, false, false, false, false, false]) rfl (by kernel_rfl) (by kernel_rfl) (by kernel_rfl) rfl rfl (o_move rfl) ?_
  refine ta_pure (i := 2) (listed' := #[true, true, true, false, false, false, false, false, false, false, false]) rfl (by kernel_rfl) (by kernel_rfl) (by kernel_rfl) rfl rfl (o_nilCheck rfl) ?_
  refine ta_pure (i := 3) (listed' := #[true, true, true, true, false, false, false, false, false, false, false]) rfl (by kernel_rfl) (by kernel_rfl) (by kernel_rfl) rfl rfl (o_fieldAddr (o := 0) Try.underlying150 rfl rfl sz148 rfl) ?_
  refine ta_two (i := 4) (j := 5) (by kernel_rfl) ?_ ?_
  · skip
    refine oa_v (i := 4) (listed' := #[true, true, true, true, true, false, false, false, false, false, false]) rfl rfl rfl (o_load p148 rfl (by repeat (first | exact has_here | exact has_pt | apply has_left)) hcell) ?_
    refine ta_one (i := 5) (by kernel_rfl) ?_
    refine oa_v (i := 5) (listed' := #[true, true, true, true, true, true, false, false, false, false, false]) rfl rfl rfl (o_loadNC (vs := wds ((seenL s.ls[at_ / 64]).set (at_ % 64 / 8) v)) a147 sz147 rfl (by rw [wds_length, List.length_set]; exact hs8) (cells_all (k := 8) (by repeat (first | exact has_here | exact has_pt | apply has_left)) (by rw [wds_length, List.length_set]; exact hs8))) ?_
    refine ta_one (i := 6) (by kernel_rfl) ?_
    refine oa_x (i := 6) (listed' := #[true, true, true, true, true, true, true, false, false, false, false]) rfl rfl rfl (o_buildSliceK Try.underlying148 sz147 z147 rfl (by rw [wds_length, List.length_set]; exact hs8) (by decide)) ?_
    rintro _ _ ⟨b29, rfl, rfl⟩
    refine ta_eq (A' := F * R * pt bl (cl (lcs svs s.ls) 150) * pt d (cl (dcs bl s.ls.length s av) 97) * pt b8 (cl (wds ((seenL s.ls[at_ / 64]).set (at_ % 64 / 8) v)) 147) * Sl 8 (.slice a' s.ls[at_ / 64].st.length c') s.ls[at_ / 64].st.length (stc s.ls[at_ / 64].st) * pt b29 (cl (wds ((seenL s.ls[at_ / 64]).set (at_ % 64 / 8) v)) 147)) (by ac_rfl) ?_
    refine ta_one (i := 7) (by kernel_rfl) ?_
    refine oa_x (i := 7) (listed' := #[true, true, true, true, true, true, true, true, false, false, false]) rfl rfl rfl (o_append1 Try.underlying148 Try.underlying148 sz147 by147 z147 rfl (by decide) (by decide) rfl rfl rfl (by rw [wds_length, List.length_set]; omega) (wds_all _) (by omega)) ?_
    rintro u30 _ rfl
    refine ta_have (fun _ _ h => sl_have h) fun ⟨_, _, hu, _, _, _⟩ => ?_
    have hu1 : oneC u30 = true := by rw [hu]; rfl
    refine ta_pure (i := 8) (listed' := #[true, true, true, true, true, true, true, true, true, false, false]) rfl (by kernel_rfl) (by kernel_rfl) (by kernel_rfl) rfl rfl (o_nilCheck rfl) ?_
    refine ta_pure (i := 9) (listed' := #[true, true, true, true, true, true, true, true, true, true, false]) rfl (by kernel_rfl) (by kernel_rfl) (by kernel_rfl) rfl rfl (o_fieldAddr (o := 0) Try.underlying150 rfl rfl sz148 rfl) ?_
    refine ta_one (i := 10) (by kernel_rfl) ?_
    refine oa_u (i := 10) (listed' := #[true, true, true, true, true, true, true, true, true, true, true]) rfl rfl rfl (o_store (l := lcs svs s.ls) (l' := lcs (svs.set (at_ / 64) u30) (s.ls.set (at_ / 64) (layL (at_ % 64 / 8) v s.ls[at_ / 64]))) sz148 rfl rfl hu1 (by rw [lcs_length hsv]; omega) (by rw [Nat.zero_add, Nat.add_zero]; exact lcs_set_sv (layL (at_ % 64 / 8) v s.ls[at_ / 64]) hsv hat rfl) (by repeat (first | exact upd_here | exact upd_pt | apply upd_left))) ?_
    refine ta_done (by kernel_rfl) ?_
    refine q_then_n ?_
    refine tc_seq ?_
    refine tc_reg ?_
    refine tl_v rfl (o_move rfl) ?_
    have hLL : (layL (at_ % 64 / 8) v s.ls[at_ / 64]).st.length = s.ls[at_ / 64].st.length + 1 := by simp [layL]
    have hLS : stc (layL (at_ % 64 / 8) v s.ls[at_ / 64]).st = stc s.ls[at_ / 64].st ++ wds ((seenL s.ls[at_ / 64]).set (at_ % 64 / 8) v) := by simp only [layL]; rw [stc_append, stc_one]
    have hfin := hf2 F u30 (layL (at_ % 64 / 8) v s.ls[at_ / 64])
    rw [hLL, hLS, ← onLine_at (f := layL (at_ % 64 / 8) v) hat] at hfin
    refine tl_pre (fun _ _ h => SP.drop_mid h) ?_
    refine tl_eq hfin ?_
    refine tl_pre (dev_back (s := layS at_ v s) (layS_wf hw hroom hv) (by unfold layS; rw [onLine_at hat]; simp [hsv]) (by unfold layS; rw [onLine_at hat]; exact hkv)) ?_
    refine tl_c rfl (o_call bd101 rfl (done_f F d (layS at_ v s))) ?_
    rintro _ _ ⟨rfl, rfl⟩
    refine tl_v rfl (o_assign rfl) ?_
    refine tl_nil ?_
    refine q_then_n ?_
    refine tc_ret ?_
    exact ⟨_, _, res1 rfl rfl, fun _ _ h => h, rfl, rfl⟩
  · skip
    refine oa_v (i := 5) (listed' := #[true, true, true, true, false, true, false, false, false, false, false]) rfl rfl rfl (o_loadNC (vs := wds ((seenL s.ls[at_ / 64]).set (at_ % 64 / 8) v)) a147 sz147 rfl (by rw [wds_length, List.length_set]; exact hs8) (cells_all (k := 8) (by repeat (first | exact has_here | exact has_pt | apply has_left)) (by rw [wds_length, List.length_set]; exact hs8))) ?_
    refine ta_two (i := 4) (j := 6) (by kernel_rfl) ?_ ?_
    · skip
      refine oa_v (i := 4) (listed' := #[true, true, true, true, true, true, false, false, false, false, false]) rfl rfl rfl (o_load p148 rfl (by repeat (first | exact has_here | exact has_pt | apply has_left)) hcell) ?_
      refine ta_one (i := 6) (by kernel_rfl) ?_
      refine oa_x (i := 6) (listed' := #[true, true, true, true, true, true, true, false, false, false, false]) rfl rfl rfl (o_buildSliceK Try.underlying148 sz147 z147 rfl (by rw [wds_length, List.length_set]; exact hs8) (by decide)) ?_
      rintro _ _ ⟨b29, rfl, rfl⟩
      refine ta_eq (A' := F * R * pt bl (cl (lcs svs s.ls) 150) * pt d (cl (dcs bl s.ls.length s av) 97) * pt b8 (cl (wds ((seenL s.ls[at_ / 64]).set (at_ % 64 / 8) v)) 147) * Sl 8 (.slice a' s.ls[at_ / 64].st.length c') s.ls[at_ / 64].st.length (stc s.ls[at_ / 64].st) * pt b29 (cl (wds ((seenL s.ls[at_ / 64]).set (at_ % 64 / 8) v)) 147)) (by ac_rfl) ?_
      refine ta_one (i := 7) (by kernel_rfl) ?_
      refine oa_x (i := 7) (listed' := #[true, true, true, true, true, true, true, true, false, false, false]) rfl rfl rfl (o_append1 Try.underlying148 Try.underlying148 sz147 by147 z147 rfl (by decide) (by decide) rfl rfl rfl (by rw [wds_length, List.length_set]; omega) (wds_all _) (by omega)) ?_
      rintro u30 _ rfl
      refine ta_have (fun _ _ h => sl_have h) fun ⟨_, _, hu, _, _, _⟩ => ?_
      have hu1 : oneC u30 = true := by rw [hu]; rfl
      refine ta_pure (i := 8) (listed' := #[true, true, true, true, true, true, true, true, true, false, false]) rfl (by kernel_rfl) (by kernel_rfl) (by kernel_rfl) rfl rfl (o_nilCheck rfl) ?_
      refine ta_pure (i := 9) (listed' := #[true, true, true, true, true, true, true, true, true, true, false]) rfl (by kernel_rfl) (by kernel_rfl) (by kernel_rfl) rfl rfl (o_fieldAddr (o := 0) Try.underlying150 rfl rfl sz148 rfl) ?_
      refine ta_one (i := 10) (by kernel_rfl) ?_
      refine oa_u (i := 10) (listed' := #[true, true, true, true, true, true, true, true, true, true, true]) rfl rfl rfl (o_store (l := lcs svs s.ls) (l' := lcs (svs.set (at_ / 64) u30) (s.ls.set (at_ / 64) (layL (at_ % 64 / 8) v s.ls[at_ / 64]))) sz148 rfl rfl hu1 (by rw [lcs_length hsv]; omega) (by rw [Nat.zero_add, Nat.add_zero]; exact lcs_set_sv (layL (at_ % 64 / 8) v s.ls[at_ / 64]) hsv hat rfl) (by repeat (first | exact upd_here | exact upd_pt | apply upd_left))) ?_
      refine ta_done (by kernel_rfl) ?_
      refine q_then_n ?_
      refine tc_seq ?_
      refine tc_reg ?_
      refine tl_v rfl (o_move rfl) ?_
      have hLL : (layL (at_ % 64 / 8) v s.ls[at_ / 64]).st.length = s.ls[at_ / 64].st.length + 1 := by simp [layL]
      have hLS : stc (layL (at_ % 64 / 8) v s.ls[at_ / 64]).st = stc s.ls[at_ / 64].st ++ wds ((seenL s.ls[at_ / 64]).set (at_ % 64 / 8) v) := by simp only [layL]; rw [stc_append, stc_one]
      have hfin := hf2 F u30 (layL (at_ % 64 / 8) v s.ls[at_ / 64])
      rw [hLL, hLS, ← onLine_at (f := layL (at_ % 64 / 8) v) hat] at hfin
      refine tl_pre (fun _ _ h => SP.drop_mid h) ?_
      refine tl_eq hfin ?_
      refine tl_pre (dev_back (s := layS at_ v s) (layS_wf hw hroom hv) (by unfold layS; rw [onLine_at hat]; simp [hsv]) (by unfold layS; rw [onLine_at hat]; exact hkv)) ?_
      refine tl_c rfl (o_call bd101 rfl (done_f F d (layS at_ v s))) ?_
      rintro _ _ ⟨rfl, rfl⟩
      refine tl_v rfl (o_assign rfl) ?_
      refine tl_nil ?_
      refine q_then_n ?_
      refine tc_ret ?_
      exact ⟨_, _, res1 rfl rfl, fun _ _ h => h, rfl, rfl⟩
    · skip
      refine oa_x (i := 6) (listed' := #[true, true, true, true, false, true, true, false, false, false, false]) rfl rfl rfl (o_buildSliceK Try.underlying148 sz147 z147 rfl (by rw [wds_length, List.length_set]; exact hs8) (by decide)) ?_
      rintro _ _ ⟨b29, rfl, rfl⟩
      refine ta_eq (A' := F * R * pt bl (cl (lcs svs s.ls) 150) * pt d (cl (dcs bl s.ls.length s av) 97) * pt b8 (cl (wds ((seenL s.ls[at_ / 64]).set (at_ % 64 / 8) v)) 147) * Sl 8 (.slice a' s.ls[at_ / 64].st.length c') s.ls[at_ / 64].st.length (stc s.ls[at_ / 64].st) * pt b29 (cl (wds ((seenL s.ls[at_ / 64]).set (at_ % 64 / 8) v)) 147)) (by ac_rfl) ?_
      refine ta_one (i := 4) (by kernel_rfl) ?_
      refine oa_v (i := 4) (listed' := #[true, true, true, true, true, true, true, false, false, false, false]) rfl rfl rfl (o_load p148 rfl (by repeat (first | exact has_here | exact has_pt | apply has_left)) hcell) ?_
      refine ta_one (i := 7) (by kernel_rfl) ?_
      refine oa_x (i := 7) (listed' := #[true, true, true, true, true, true, true, true, false, false, false]) rfl rfl rfl (o_append1 Try.underlying148 Try.underlying148 sz147 by147 z147 rfl (by decide) (by decide) rfl rfl rfl (by rw [wds_length, List.length_set]; omega) (wds_all _) (by omega)) ?_
      rintro u30 _ rfl
      refine ta_have (fun _ _ h => sl_have h) fun ⟨_, _, hu, _, _, _⟩ => ?_
      have hu1 : oneC u30 = true := by rw [hu]; rfl
      refine ta_pure (i := 8) (listed' := #[true, true, true, true, true, true, true, true, true, false, false]) rfl (by kernel_rfl) (by kernel_rfl) (by kernel_rfl) rfl rfl (o_nilCheck rfl) ?_
      refine ta_pure (i := 9) (listed' := #[true, true, true, true, true, true, true, true, true, true, false]) rfl (by kernel_rfl) (by kernel_rfl) (by kernel_rfl) rfl rfl (o_fieldAddr (o := 0) Try.underlying150 rfl rfl sz148 rfl) ?_
      refine ta_one (i := 10) (by kernel_rfl) ?_
      refine oa_u (i := 10) (listed' := #[true, true, true, true, true, true, true, true, true, true, true]) rfl rfl rfl (o_store (l := lcs svs s.ls) (l' := lcs (svs.set (at_ / 64) u30) (s.ls.set (at_ / 64) (layL (at_ % 64 / 8) v s.ls[at_ / 64]))) sz148 rfl rfl hu1 (by rw [lcs_length hsv]; omega) (by rw [Nat.zero_add, Nat.add_zero]; exact lcs_set_sv (layL (at_ % 64 / 8) v s.ls[at_ / 64]) hsv hat rfl) (by repeat (first | exact upd_here | exact upd_pt | apply upd_left))) ?_
      refine ta_done (by kernel_rfl) ?_
      refine q_then_n ?_
      refine tc_seq ?_
      refine tc_reg ?_
      refine tl_v rfl (o_move rfl) ?_
      have hLL : (layL (at_ % 64 / 8) v s.ls[at_ / 64]).st.length = s.ls[at_ / 64].st.length + 1 := by simp [layL]
      have hLS : stc (layL (at_ % 64 / 8) v s.ls[at_ / 64]).st = stc s.ls[at_ / 64].st ++ wds ((seenL s.ls[at_ / 64]).set (at_ % 64 / 8) v) := by simp only [layL]; rw [stc_append, stc_one]
      have hfin := hf2 F u30 (layL (at_ % 64 / 8) v s.ls[at_ / 64])
      rw [hLL, hLS, ← onLine_at (f := layL (at_ % 64 / 8) v) hat] at hfin
      refine tl_pre (fun _ _ h => SP.drop_mid h) ?_
      refine tl_eq hfin ?_
      refine tl_pre (dev_back (s := layS at_ v s) (layS_wf hw hroom hv) (by unfold layS; rw [onLine_at hat]; simp [hsv]) (by unfold layS; rw [onLine_at hat]; exact hkv)) ?_
      refine tl_c rfl (o_call bd101 rfl (done_f F d (layS at_ v s))) ?_
      rintro _ _ ⟨rfl, rfl⟩
      refine tl_v rfl (o_assign rfl) ?_
      refine tl_nil ?_
      refine q_then_n ?_
      refine tc_ret ?_
      exact ⟨_, _, res1 rfl rfl, fun _ _ h => h, rfl, rfl⟩


/-- What Store8 answers, and the device behind it. -/
def st8 (p : Int) (v : Nat) (s : DevS) : Int × DevS :=
  if rdy s.ls.length s.off p 8 ≠ 0 then (rdy s.ls.length s.off p 8, s) else if p % 8 ≠ 0 then (6, s) else (doneE (layS p.toNat v s), doneS (layS p.toNat v s))
theorem rdy0 {n : Nat} {off : Bool} {p m : Int} (h : rdy n off p m = 0) : off = false ∧ 0 ≤ p ∧ 0 ≤ m ∧ p + m ≤ (n : Int) * 64 := by
  unfold rdy at h
  split at h
  · exact absurd h (by omega)
  · rename_i ho
    split at h
    · exact absurd h (by omega)
    · exact ⟨by simpa using ho, by omega, by omega, by omega⟩

theorem Store8_f (F : SP) (d v : Nat) (p : Int) (s : DevS) (hp : -9223372036854775808 ≤ p ∧ p ≤ 9223372036854775807) (hv : v < 18446744073709551616) (hroom : Room 1 s) :
    Fn Try.prog 40 #[.pointer (some ⟨d, 0, none⟩), .int .i64 p, .int .u64 (v : Nat)] (F * Dev d s) (fun r B => r = .int .i64 (st8 p v s).1 ∧ B = F * Dev d (st8 p v s).2) := by
  refine fn_enterW (args := [.pointer (some ⟨d, 0, none⟩), .int .i64 p, .int .u64 (v : Nat)]) Try.func40 rfl Try.ntmps40 (by simp) ?_
  refine tc_dev fun hw bl svs av kvs hsv hkv => ?_
  have hpos := hw.pos
  have htop := hw.top
  refine tc_seq ?_
  refine tc_reg ?_
  refine tl_v rfl (o_assign rfl) ?_
  refine tl_nil ?_
  refine q_then_n ?_
  refine tc_seq ?_
  refine tc_seq ?_
  refine tc_reg ?_
  refine tl_v rfl (o_move rfl) ?_
  refine tl_v rfl (o_move rfl) ?_
  refine tl_c rfl (o_call bd88 rfl (ready_f _ d bl s.ls.length s av dev_cells hpos htop p 8 hp (by omega))) ?_
  rintro _ _ ⟨rfl, rfl⟩
  refine tl_v rfl (o_assign rfl) ?_
  refine tl_nil ?_
  refine q_then_n ?_
  refine tc_seq ?_
  refine tc_reg ?_
  refine tl_v rfl (o_move rfl) ?_
  refine tl_v rfl (o_nei rfl rfl) ?_
  refine tl_nil ?_
  refine q_then_n ?_
  refine tc_cond rfl (fun h => ?_) (fun h => ?_)
  · try simp only [decide_eq_true_eq, decide_eq_false_iff_not, Bool.not_eq_true', Bool.not_eq_false', Option.isNone_some, Option.isNone_none, Bool.not_true, Bool.not_false] at h
    refine tc_seq ?_
    refine tc_reg ?_
    refine tl_v rfl (o_move rfl) ?_
    refine tl_v rfl (o_assign rfl) ?_
    refine tl_nil ?_
    refine q_then_n ?_
    refine tc_ret ?_
    refine q_then_r ?_
    exact ⟨.int .i64 (rdy s.ls.length s.off p 8), _, res1 rfl rfl, dev_back hw hsv hkv, by unfold st8; rw [if_pos h], by unfold st8; rw [if_pos h]⟩
  · simp only [bne_iff_ne, ne_eq, decide_eq_false_iff_not, Bool.not_eq_false', Bool.not_eq_true', decide_eq_true_eq] at h
    have hr0 := rdy0 (show rdy s.ls.length s.off p 8 = 0 by omega)
    obtain ⟨q, rfl⟩ := Int.eq_ofNat_of_zero_le hr0.2.1
    refine tc_skip ?_
    refine q_then_n ?_
    refine tc_seq ?_
    refine tc_seq ?_
    refine tc_reg ?_
    refine tl_v rfl (o_move rfl) ?_
    refine tl_v rfl (o_remI rfl rfl (by omega)) ?_
    refine tl_v rfl (o_nei rfl rfl) ?_
    refine tl_nil ?_
    refine q_then_n ?_
    refine tc_cond rfl (fun h => ?_) (fun h => ?_)
    · try simp only [decide_eq_true_eq, decide_eq_false_iff_not, Bool.not_eq_true', Bool.not_eq_false', Option.isNone_some, Option.isNone_none, Bool.not_true, Bool.not_false] at h
      refine tc_seq ?_
      refine tc_reg ?_
      refine tl_v rfl (o_assign rfl) ?_
      refine tl_nil ?_
      refine q_then_n ?_
      refine tc_ret ?_
      refine q_then_r ?_
      exact ⟨.int .i64 6, _, res1 rfl rfl, dev_back hw hsv hkv, by unfold st8; rw [if_neg (by omega), if_pos (by omega)], by unfold st8; rw [if_neg (by omega), if_pos (by omega)]⟩
    · try simp only [decide_eq_true_eq, decide_eq_false_iff_not, Bool.not_eq_true', Bool.not_eq_false', Option.isNone_some, Option.isNone_none, Bool.not_true, Bool.not_false] at h
      refine tc_skip ?_
      refine q_then_n ?_
      refine tc_seq ?_
      refine tc_reg ?_
      refine tl_v rfl (o_move rfl) ?_
      refine tl_v rfl (o_move rfl) ?_
      refine tl_v rfl (o_move rfl) ?_
      refine tl_pre (dev_back hw hsv hkv) ?_
      refine tl_c rfl (o_call bd97 rfl (lay_f F d q v s (by omega) hv hroom)) ?_
      rintro _ _ ⟨rfl, rfl⟩
      refine tl_v rfl (o_assign rfl) ?_
      refine tl_nil ?_
      refine q_then_n ?_
      refine tc_ret ?_
      exact ⟨_, _, res1 rfl rfl, fun _ _ h => h, by unfold st8; rw [if_neg (by omega), if_neg (by omega)]; rfl, by unfold st8; rw [if_neg (by omega), if_neg (by omega)]; rfl⟩

end Go.Vl
