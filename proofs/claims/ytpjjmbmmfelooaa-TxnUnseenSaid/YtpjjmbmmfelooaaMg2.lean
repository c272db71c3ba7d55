/- What the row rests on, part 2: a calculus of assertions, walks of functions over it, and plain laws. Conditions: none. -/
import Derived.Deep.QuietTactic
import Derived.BigQuiet
import Derived.WalkKit
import Derived.Test.YtpjjmbmmfelooaaProg
import Derived.OrdersHeld
import Derived.Laws.BytesArg
import Derived.RangeFuncRecord
import Derived.TacticsIn
import Derived.Deep.Slices
import Derived.OpenShut
import Derived.ChangeArms
import Derived.SizedLaws
import Derived.ChangeSame
import Derived.Test.YtpjjmbmmfelooaaRows
import Derived.Sort.QuietThIn
import Derived.Maps.RangeRun
import Derived.ScopeJumps
import Derived.Shelf.SortM.SortNone
import Derived.Shelf.SortM.Plain
import Derived.Ground.SlgmProg
import Derived.Test.YtpjjmbmmfelooaaMg1
set_option linter.unusedVariables false
set_option linter.unusedSimpArgs false
namespace Go.Vl
open Go Go.Proofs
/-- The bytes of words. -/
def lb (s : List Nat) : List Nat := s.flatMap (le 8)
theorem lb_length (s : List Nat) : (lb s).length = s.length * 8 := by
  induction s with
  | nil => rfl
  | cons x s ih => simp only [lb, List.flatMap_cons, List.length_append, le_length, List.length_cons] at *; omega
theorem lb_append (a b : List Nat) : lb (a ++ b) = lb a ++ lb b := by simp [lb]
theorem lb_take {s : List Nat} {i : Nat} (h : i < s.length) : lb (s.take (i + 1)) = lb (s.take i) ++ le 8 s[i] := by
  rw [List.take_succ_eq_append_getElem h, lb_append]; simp [lb]
theorem lb_zero : lb (List.replicate 8 0) = List.replicate 64 0 := by decide
theorem wds_eq (s : List Nat) : wds s = (s.map fun n : Nat => (n : Int)).map (Value.int .u64) := by rw [wds, List.map_map]; rfl
theorem map_inj {s t : List Nat} : (s.map fun n : Nat => (n : Int)) = (t.map fun n : Nat => (n : Int)) ↔ s = t := by
  constructor
  · intro h
    exact (List.map_inj_right (fun x y h => by omega)).1 h
  · rintro rfl; rfl
section
variable {P : Program} {n : Nat} {ρ : Env} {dst : Option Nat} {ty : TypeId} {pos : String} {after : Array Edge} {gd : Option (Nat × Bool)} {A : SP}
theorem o_eqarrW {t t' e : TypeId} {x y : Operand} {len : Nat} {xs ys : List Nat} (hu : P.underlying t = some (.array len e)) (hk : szE P e = some 1) (he : P.underlying e = some (.int .u64)) (hp : plainE P e = true)
    (hge : P.eqGuardType P.depth t = false) (hx : ev n ρ x = .agg (wds xs).toArray) (hy : ev n ρ y = .agg (wds ys).toArray) (h1 : xs.length = len) (h2 : ys.length = len) :
    OpV P n ρ A ⟨dst, .binOp .eql t x y t', ty, pos, after, gd⟩ (.bool (decide (xs = ys))) := by
  have := o_eqarr (A := A) (dst := dst) (ty := ty) (pos := pos) (after := after) (gd := gd) (t' := t') hu hk he hp hge (by rw [hx, wds_eq]) (by rw [hy, wds_eq]) (by rw [List.length_map, h1]) (by rw [List.length_map, h2])
  rwa [show decide ((xs.map fun n : Nat => (n : Int)) = (ys.map fun n : Nat => (n : Int))) = decide (xs = ys) from by simp only [map_inj]] at this
end
theorem cells_all {A : SP} {b k : Nat} {l : List Value} {E : TypeId} (h : Has A b (cl l E)) (hk : l.length = k) : Cells A b 0 l := cells_of_has (k := k) h (List.take_of_length_le (by rw [List.drop_zero]; omega))
theorem bytes_f (A : SP) (s : List Nat) (hs8 : s.length = 8) (hw : ∀ x ∈ s, x < 18446744073709551616) :
    Fn Try.prog 36 #[.agg (wds s).toArray] (A) (fun r B => ∃ u, r = u ∧ B = A * Sl 1 u 64 (bys (lb s))) := by
  refine fn_enterW (args := [.agg (wds s).toArray]) Try.func36 rfl Try.ntmps36 (by simp) ?_
  have hwl : (wds s).length = 8 := by rw [wds_length]; exact hs8
  refine sr ?_; refine tl_x rfl (o_box rfl rfl) ?_; rintro _ _ ⟨b1, rfl, rfl⟩; refine tv (o_assign rfl) ?_; refine nq ?_; refine tc_seq ?_; refine sr ?_; refine tv (o_loadNC a83 sz83 rfl hwl (cells_all (by repeat (first | exact has_here | exact has_pt | apply has_left)) hwl)) ?_; refine tv (o_buildA (vs := []) Try.underlying83 sz81 z83 rfl rfl rfl (Nat.zero_le _) rfl) ?_; refine tv (o_eqarrW (xs := s) (ys := List.replicate 8 0) Try.underlying83 sz81 Try.underlying81 p81 (by kernel_rfl) rfl rfl hs8 rfl) ?_; refine nq ?_; refine tc_cond rfl (fun h => ?_) (fun h => ?_)
  · try simp only [lv1, lv2, lv3, lv4, lv5, lv6, Bool.not_true, Bool.not_false] at h
    refine sr ?_; refine tl_x rfl (o_makeSliceI Try.underlying22 sz5 by5 z5 rfl rfl rfl (by omega) (by omega)) ?_; rintro _ _ ⟨b9, rfl, rfl⟩; refine tv (o_assign rfl) ?_; refine nq ?_; refine tc_ret ?_; refine q_then_r ?_; exact ⟨_, _, res1 rfl rfl, fun _ _ hh => (sl_new (k := 1) (n := 64) (cap := 64) hh (by omega) (by simp) (List.take_of_length_le (by simp))).drop2, _, rfl, by rw [h, lb_zero]; rfl⟩
  · try simp only [lv1, lv2, lv3, lv4, lv5, lv6, Bool.not_true, Bool.not_false] at h
    refine tc_skip ?_; refine q_then_n ?_; refine sr ?_; refine tv (o_assign rfl) ?_; refine nq ?_; refine tc_seq ?_; refine sr ?_; refine tv (o_loadNC a83 sz83 rfl hwl (cells_all (by repeat (first | exact has_here | exact has_pt | apply has_left)) hwl)) ?_; refine tl_pre (fun _ _ h => sl_nil (k := 1) h) ?_; refine tv (o_move rfl) ?_; refine nq ?_; refine tc_block ?_; refine tc_loop (fun k ρ B => ∃ (i : Nat) (v : Value), i ≤ 8 ∧ k = 8 - i ∧ ρ 3 = v ∧ ρ 10 = .agg (wds s).toArray ∧ ρ 11 = .int .i64 i ∧ B = A * pt b1 (cl (wds s) 83) * Sl 1 v (lb (s.take i)).length (bys (lb (s.take i)))) (m := 8) ?_ ?_
    · exact ⟨0, .slice none 0 0, by omega, rfl, rfl, rfl, rfl, rfl⟩
    · intro k ρ B hI
      obtain ⟨i, v, hi, rfl, h3, h10, h11, rfl⟩ := hI
      refine tc_env (d := 3) h3 ?_; refine tc_env (d := 10) h10 ?_; refine tc_env (d := 11) h11 ?_; refine sr ?_; refine tv (o_lss rfl rfl) ?_; refine nq ?_; refine tc_seq ?_; refine tc_cond rfl (fun h => ?_) (fun h => ?_)
      · try simp only [lv1, lv2, lv3, lv4, lv5, lv6, Bool.not_true, Bool.not_false] at h
        refine tc_skip ?_; refine q_then_n ?_; refine tc_seq ?_; refine tc_block ?_; refine sr ?_; refine tv (o_index1 (cs := wds s) Try.underlying83 sz81 p81 rfl rfl (by omega) (by omega) (wds_at (by omega))) ?_; refine tv (o_assign rfl) ?_; refine nq ?_; refine tc_reg ?_; refine tv (o_move rfl) ?_; refine tv (o_move rfl) ?_; refine tl_have (fun _ _ h => sl_have h) fun ⟨a, c, hv, _, _, hrd⟩ => ?_
        subst hv
        have hi8 : i < s.length := by omega
        refine tl_c rfl (o_call bd50 rfl (Put64_f _ a c (lb (s.take i)) s[i] hrd (hw _ (List.getElem_mem _)) (by rw [lb_length, List.length_take]; omega))) ?_; rintro u16 _ ⟨_, rfl, rfl⟩; refine tl_pre (fun _ _ h => h.drop2) ?_; refine tv (o_assign rfl) ?_; refine tl_nil ?_; refine q_block_n (q_then_n ?_); refine tc_reg ?_; refine tv (by first | exact o_addI rfl rfl (by omega) | exact o_add rfl rfl) ?_; refine tv (o_move rfl) ?_; refine nq ?_; exact ⟨_, by omega, i + 1, u16, by omega, rfl, rfl, rfl, rfl, by rw [lb_take (by omega), List.length_append, le_length]⟩
      · try simp only [lv1, lv2, lv3, lv4, lv5, lv6, Bool.not_true, Bool.not_false] at h
        refine tc_exit ?_; refine q_then_e (q_then_e (q_block_x (q_then_n ?_))); refine sr ?_; refine tv (o_move rfl) ?_; refine tv (o_assign rfl) ?_; refine nq ?_; refine tc_ret ?_
        obtain rfl : i = 8 := by omega
        have e : s.take 8 = s := List.take_of_length_le (by omega)
        rw [e, lb_length, hs8]
        exact ⟨v, _, res1 rfl rfl, fun _ _ h => h.drop2, v, rfl, rfl⟩
end Go.Vl

namespace Go.Vl
open Go Go.Proofs
section
variable {P : Program} {n : Nat} {ρ : Env} {A : SP} {dst : Option Tmp} {ty : TypeId} {pos : String} {after : Array Edge} {gd : Option (Nat × Bool)}
theorem o_quoN {t t' : TypeId} {x y : Operand} {a b : Nat} (hx : ev n ρ x = .int .i64 (a : Int)) (hy : ev n ρ y = .int .i64 (b : Int)) (h : 0 < b ∧ a ≤ 9223372036854775807) :
    OpV P n ρ A ⟨dst, .binOp .quo t x y t', ty, pos, after, gd⟩ (.int .i64 ((a / b : Nat) : Int)) := o_quoI hx hy (by omega)
theorem o_remN {t t' : TypeId} {x y : Operand} {k : IntKind} {a b : Nat} (hx : ev n ρ x = .int k (a : Int)) (hy : ev n ρ y = .int k (b : Int)) (h : 0 < b) :
    OpV P n ρ A ⟨dst, .binOp .rem t x y t', ty, pos, after, gd⟩ (.int k ((a % b : Nat) : Int)) := o_remI hx hy (by omega)
end
/-- What is seen of a line. -/
def seenL (l : LineS) : List Nat := l.st.getD (l.st.length - 1) []
def layL (k v : Nat) (l : LineS) : LineS := { l with st := l.st ++ [(seenL l).set k v] }
def onLine (f : LineS → LineS) (i : Nat) (s : DevS) : DevS := match s.ls[i]? with
  | some l => { s with ls := s.ls.set i (f l) }
  | none => s
theorem onLine_at {f : LineS → LineS} {i : Nat} {s : DevS} (h : i < s.ls.length) : onLine f i s = { s with ls := s.ls.set i (f s.ls[i]) } := by
  unfold onLine; rw [List.getElem?_eq_getElem h]
def layS (at_ v : Nat) (s : DevS) : DevS := onLine (layL (at_ % 64 / 8) v) (at_ / 64) s
/-- There is room for so many contents more in every line. -/
def Room (k : Nat) (s : DevS) : Prop := ∀ l ∈ s.ls, l.st.length + k ≤ 2199023255552
theorem seenL_eq {l : LineS} (h : 0 < l.st.length) : seenL l = l.st[l.st.length - 1] := by unfold seenL; rw [getD_at (by omega)]
theorem seenL_mem {l : LineS} (h : WfL l) : seenL l ∈ l.st := by
  have := List.length_pos_iff.2 h.ne
  rw [seenL_eq this]; exact List.getElem_mem _
theorem onLine_wf {f : LineS → LineS} {i : Nat} {s : DevS} (hw : WfD s) (h : ∀ l ∈ s.ls, WfL (f l)) : WfD (onLine f i s) := by
  unfold onLine
  cases e : s.ls[i]? with
  | none => exact hw
  | some l =>
    have hm := List.mem_of_getElem? e
    refine ⟨by simp; exact hw.pos, by simp; exact hw.top, fun x hx => ?_, hw.arms, hw.after, hw.keeps⟩
    rcases List.mem_or_eq_of_mem_set hx with h1 | rfl
    · exact hw.line x h1
    · exact h l hm
theorem layL_wf {k v : Nat} {l : LineS} (h : WfL l) (hr : l.st.length + 1 ≤ 2199023255552) (hv : v < 18446744073709551616) : WfL (layL k v l) := by
  have hm := seenL_mem h
  refine ⟨by simp [layL], ?_, h.lo, ?_, ?_, ?_⟩
  · intro x hx
    simp only [layL, List.mem_append, List.mem_singleton] at hx
    rcases hx with hx | rfl
    · exact h.eight x hx
    · rw [List.length_set]; exact h.eight _ hm
  · have := h.hi; simp only [layL, List.length_append, List.length_singleton]; omega
  · simpa [layL] using hr
  · intro x hx
    simp only [layL, List.mem_append, List.mem_singleton] at hx
    rcases hx with hx | rfl
    · exact h.words x hx
    · intro y hy
      rcases List.mem_or_eq_of_mem_set hy with h1 | rfl
      · exact h.words _ hm y h1
      · exact hv
theorem layS_wf {at_ v : Nat} {s : DevS} (hw : WfD s) (hr : Room 1 s) (hv : v < 18446744073709551616) : WfD (layS at_ v s) :=
  onLine_wf hw fun l hl => layL_wf (hw.line l hl) (hr l hl) hv
theorem wds_set (s : List Nat) (k v : Nat) : (wds s).set k (.int .u64 (v : Nat)) = wds (s.set k v) := by simp [wds, List.map_set]; rfl
theorem SP.drop_mid {g : Gh} {w : World} {X Y Z : SP} (h : sat g w (X * Y * Z)) : sat g w (X * Z) := h.drop2
theorem lay_f (F : SP) (d at_ v : Nat) (s : DevS) (hat : at_ / 64 < s.ls.length) (hv : v < 18446744073709551616) (hroom : Room 1 s) :
    Fn Try.prog 71 #[.pointer (some ⟨d, 0, none⟩), .int .i64 (at_ : Nat), .int .u64 (v : Nat)] (F * Dev d s) (fun r B => r = .int .i64 (doneE (layS at_ v s)) ∧ B = F * Dev d (doneS (layS at_ v s))) := by
  refine fn_enterW (args := [.pointer (some ⟨d, 0, none⟩), .int .i64 (at_ : Nat), .int .u64 (v : Nat)]) Try.func71 rfl Try.ntmps71 (by simp) ?_; refine tc_dev fun hw bl svs av kvs hsv hkv => ?_
  have hpos := hw.pos
  have htop := hw.top
  obtain ⟨R, hf1, hf2⟩ := devC_focus (d := d) (bl := bl) (kvs := kvs) (av := av) (s := s) hsv hat
  refine tc_eq (hf1 F) ?_; refine tc_have (fun _ _ h => sl_have' rfl h) fun ⟨a', c', hvv, hn', hl', hrd⟩ => ?_
  rw [hvv] at hrd ⊢
  have hwl : WfL s.ls[at_ / 64] := hw.line _ (List.getElem_mem _)
  have hlen : 0 < s.ls[at_ / 64].st.length := List.length_pos_iff.2 hwl.ne
  have hsm := hwl.small
  have hcell : (lcs svs s.ls)[0 + at_ / 64 * 2 + 0]? = some (.slice a' s.ls[at_ / 64].st.length c') := by rw [Nat.zero_add, Nat.add_zero, lcs_sv hsv (by omega), hvv]
  have hrm := hroom _ (List.getElem_mem hat)
  have hs8 := hwl.eight _ (seenL_mem hwl)
  have hse := seenL_eq hlen
  refine sr ?_; refine tv (o_assign rfl) ?_; refine nq ?_; refine sr ?_; refine tv (o_move rfl) ?_; refine tv (o_nilCheck rfl) ?_; refine tv (o_fieldAddr (o := 0) Try.underlying80 rfl rfl sz77 rfl) ?_; refine tv (o_load p77 rfl (by repeat (first | exact has_here | exact has_pt | apply has_left)) rfl) ?_; refine tv (o_move rfl) ?_; refine tv (o_quoN (b := 64) rfl rfl (by omega)) ?_; refine tv (o_indexAddrN Try.underlying77 sz86 rfl rfl (by omega)) ?_; refine tv (o_assign rfl) ?_; refine nq ?_; refine sr ?_; refine tv (o_move rfl) ?_; refine tl_c rfl (o_call bd35 rfl (seen_f _ bl (0 + at_ / 64 * 2) c' a' s.ls[at_ / 64].st (cell_of_has (by repeat (first | exact has_here | exact has_pt | apply has_left)) hcell) hrd hwl.eight hlen hsm)) ?_; rintro _ _ ⟨rfl, rfl⟩; refine tl_env (d := 17) (v := .agg (wds (seenL s.ls[at_ / 64])).toArray) (by rw [hse]; rfl) ?_; refine tl_x rfl (o_alloc z83 rfl) ?_; rintro _ _ ⟨b8, rfl, rfl⟩; refine tl_u rfl (o_storeN (l' := wds (seenL s.ls[at_ / 64])) sz83 rfl rfl (by rw [wds_length]; exact hs8) (wds_all _) (by simp) (splice_all (by rw [wds_length, hs8]; rfl)) upd_here) ?_; refine nq ?_; refine sr ?_; refine tv (o_move rfl) ?_; refine tv (o_remN (b := 64) rfl rfl (by omega)) ?_; refine tv (o_quoN (b := 8) rfl rfl (by omega)) ?_
  refine tv (o_move rfl) ?_; refine tv (o_indexAddrAN1 Try.underlying83 sz81 rfl rfl (by omega)) ?_; refine tl_u rfl (o_store (l' := wds ((seenL s.ls[at_ / 64]).set (at_ % 64 / 8) v)) sz81 rfl rfl rfl (by rw [wds_length, hs8]; omega) (by rw [Nat.zero_add]; exact wds_set _ _ _) upd_here) ?_; refine nq ?_; refine tc_seq ?_; refine tc_rega mo ?_
  show TA _ _ _ _ 11 #[ff,ff,ff,ff,ff,ff,ff,ff,ff,ff,ff] _ _
  refine ta_pure (i := 0) (listed' := #[tt,ff,ff,ff,ff,ff,ff,ff,ff,ff,ff]) rfl (by kernel_rfl) (by kernel_rfl) (by kernel_rfl) rfl rfl (o_move rfl) ?_; refine ta_pure (i := 1) (listed' := #[tt,tt,ff,ff,ff,ff,ff,ff,ff,ff,ff]) rfl (by kernel_rfl) (by kernel_rfl) (by kernel_rfl) rfl rfl (o_move rfl) ?_; refine ta_pure (i := 2) (listed' := #[tt,tt,tt,ff,ff,ff,ff,ff,ff,ff,ff]) rfl (by kernel_rfl) (by kernel_rfl) (by kernel_rfl) rfl rfl (o_nilCheck rfl) ?_; refine ta_pure (i := 3) (listed' := #[tt,tt,tt,tt,ff,ff,ff,ff,ff,ff,ff]) rfl (by kernel_rfl) (by kernel_rfl) (by kernel_rfl) rfl rfl (o_fieldAddr (o := 0) Try.underlying86 rfl rfl sz84 rfl) ?_; refine ta_two (i := 4) (j := 5) (by kernel_rfl) ?_ ?_
  · skip
    refine oa_v (i := 4) (listed' := #[tt,tt,tt,tt,tt,ff,ff,ff,ff,ff,ff]) rfl rfl rfl (o_load p84 rfl (by repeat (first | exact has_here | exact has_pt | apply has_left)) hcell) ?_; refine ta_one (i := 5) (by kernel_rfl) ?_; refine oa_v (i := 5) (listed' := #[tt,tt,tt,tt,tt,tt,ff,ff,ff,ff,ff]) rfl rfl rfl (o_loadNC (vs := wds ((seenL s.ls[at_ / 64]).set (at_ % 64 / 8) v)) a83 sz83 rfl (by rw [wds_length, List.length_set]; exact hs8) (cells_all (k := 8) (by repeat (first | exact has_here | exact has_pt | apply has_left)) (by rw [wds_length, List.length_set]; exact hs8))) ?_; refine ta_one (i := 6) (by kernel_rfl) ?_; refine oa_x (i := 6) (listed' := #[tt,tt,tt,tt,tt,tt,tt,ff,ff,ff,ff]) rfl rfl rfl (o_buildSliceK Try.underlying84 sz83 z83 rfl (by rw [wds_length, List.length_set]; exact hs8) (by decide)) ?_; rintro _ _ ⟨b29, rfl, rfl⟩; refine ta_eq (A' := F * R * pt bl (cl (lcs svs s.ls) 86) * pt d (cl (dcs bl s.ls.length s av) 80) * pt b8 (cl (wds ((seenL s.ls[at_ / 64]).set (at_ % 64 / 8) v)) 83) * Sl 8 (.slice a' s.ls[at_ / 64].st.length c') s.ls[at_ / 64].st.length (stc s.ls[at_ / 64].st) * pt b29 (cl (wds ((seenL s.ls[at_ / 64]).set (at_ % 64 / 8) v)) 83)) (by ac_rfl) ?_; refine ta_one (i := 7) (by kernel_rfl) ?_; refine oa_x (i := 7) (listed' := #[tt,tt,tt,tt,tt,tt,tt,tt,ff,ff,ff]) rfl rfl rfl (o_append1 Try.underlying84 Try.underlying84 sz83 by83 z83 rfl (by decide) (by decide) rfl rfl rfl (by rw [wds_length, List.length_set]; omega) (wds_all _) (by omega)) ?_
    rintro u30 _ rfl; refine ta_have (fun _ _ h => sl_have h) fun ⟨_, _, hu, _, _, _⟩ => ?_
    have hu1 : oneC u30 = true := by rw [hu]; rfl
    refine ta_pure (i := 8) (listed' := #[tt,tt,tt,tt,tt,tt,tt,tt,tt,ff,ff]) rfl (by kernel_rfl) (by kernel_rfl) (by kernel_rfl) rfl rfl (o_nilCheck rfl) ?_; refine ta_pure (i := 9) (listed' := #[tt,tt,tt,tt,tt,tt,tt,tt,tt,tt,ff]) rfl (by kernel_rfl) (by kernel_rfl) (by kernel_rfl) rfl rfl (o_fieldAddr (o := 0) Try.underlying86 rfl rfl sz84 rfl) ?_; refine ta_one (i := 10) (by kernel_rfl) ?_; refine oa_u (i := 10) (listed' := #[tt,tt,tt,tt,tt,tt,tt,tt,tt,tt,tt]) rfl rfl rfl (o_store (l := lcs svs s.ls) (l' := lcs (svs.set (at_ / 64) u30) (s.ls.set (at_ / 64) (layL (at_ % 64 / 8) v s.ls[at_ / 64]))) sz84 rfl rfl hu1 (by rw [lcs_length hsv]; omega) (by rw [Nat.zero_add, Nat.add_zero]; exact lcs_set_sv (layL (at_ % 64 / 8) v s.ls[at_ / 64]) hsv hat rfl) (by repeat (first | exact upd_here | exact upd_pt | apply upd_left))) ?_; refine ta_done (by kernel_rfl) ?_; refine q_then_n ?_; refine sr ?_; refine tv (o_move rfl) ?_
    have hLL : (layL (at_ % 64 / 8) v s.ls[at_ / 64]).st.length = s.ls[at_ / 64].st.length + 1 := by simp [layL]
    have hLS : stc (layL (at_ % 64 / 8) v s.ls[at_ / 64]).st = stc s.ls[at_ / 64].st ++ wds ((seenL s.ls[at_ / 64]).set (at_ % 64 / 8) v) := by simp only [layL]; rw [stc_append, stc_one]
    have hfin := hf2 F u30 (layL (at_ % 64 / 8) v s.ls[at_ / 64])
    rw [hLL, hLS, ← onLine_at (f := layL (at_ % 64 / 8) v) hat] at hfin
    refine tl_pre (fun _ _ h => SP.drop_mid h) ?_; refine tl_eq hfin ?_; refine tl_pre (dev_back (s := layS at_ v s) (layS_wf hw hroom hv) (by unfold layS; rw [onLine_at hat]; simp [hsv]) (by unfold layS; rw [onLine_at hat]; exact hkv)) ?_; refine tl_c rfl (o_call bd58 rfl (done_f F d (layS at_ v s))) ?_; rintro _ _ ⟨rfl, rfl⟩; refine tv (o_assign rfl) ?_; refine nq ?_; refine tc_ret ?_; exact ⟨_, _, res1 rfl rfl, fun _ _ h => h, rfl, rfl⟩
  · skip
    refine oa_v (i := 5) (listed' := #[tt,tt,tt,tt,ff,tt,ff,ff,ff,ff,ff]) rfl rfl rfl (o_loadNC (vs := wds ((seenL s.ls[at_ / 64]).set (at_ % 64 / 8) v)) a83 sz83 rfl (by rw [wds_length, List.length_set]; exact hs8) (cells_all (k := 8) (by repeat (first | exact has_here | exact has_pt | apply has_left)) (by rw [wds_length, List.length_set]; exact hs8))) ?_; refine ta_two (i := 4) (j := 6) (by kernel_rfl) ?_ ?_
    · skip
      refine oa_v (i := 4) (listed' := #[tt,tt,tt,tt,tt,tt,ff,ff,ff,ff,ff]) rfl rfl rfl (o_load p84 rfl (by repeat (first | exact has_here | exact has_pt | apply has_left)) hcell) ?_; refine ta_one (i := 6) (by kernel_rfl) ?_; refine oa_x (i := 6) (listed' := #[tt,tt,tt,tt,tt,tt,tt,ff,ff,ff,ff]) rfl rfl rfl (o_buildSliceK Try.underlying84 sz83 z83 rfl (by rw [wds_length, List.length_set]; exact hs8) (by decide)) ?_; rintro _ _ ⟨b29, rfl, rfl⟩; refine ta_eq (A' := F * R * pt bl (cl (lcs svs s.ls) 86) * pt d (cl (dcs bl s.ls.length s av) 80) * pt b8 (cl (wds ((seenL s.ls[at_ / 64]).set (at_ % 64 / 8) v)) 83) * Sl 8 (.slice a' s.ls[at_ / 64].st.length c') s.ls[at_ / 64].st.length (stc s.ls[at_ / 64].st) * pt b29 (cl (wds ((seenL s.ls[at_ / 64]).set (at_ % 64 / 8) v)) 83)) (by ac_rfl) ?_; refine ta_one (i := 7) (by kernel_rfl) ?_; refine oa_x (i := 7) (listed' := #[tt,tt,tt,tt,tt,tt,tt,tt,ff,ff,ff]) rfl rfl rfl (o_append1 Try.underlying84 Try.underlying84 sz83 by83 z83 rfl (by decide) (by decide) rfl rfl rfl (by rw [wds_length, List.length_set]; omega) (wds_all _) (by omega)) ?_; rintro u30 _ rfl; refine ta_have (fun _ _ h => sl_have h) fun ⟨_, _, hu, _, _, _⟩ => ?_
      have hu1 : oneC u30 = true := by rw [hu]; rfl
      refine ta_pure (i := 8) (listed' := #[tt,tt,tt,tt,tt,tt,tt,tt,tt,ff,ff]) rfl (by kernel_rfl) (by kernel_rfl) (by kernel_rfl) rfl rfl (o_nilCheck rfl) ?_; refine ta_pure (i := 9) (listed' := #[tt,tt,tt,tt,tt,tt,tt,tt,tt,tt,ff]) rfl (by kernel_rfl) (by kernel_rfl) (by kernel_rfl) rfl rfl (o_fieldAddr (o := 0) Try.underlying86 rfl rfl sz84 rfl) ?_; refine ta_one (i := 10) (by kernel_rfl) ?_; refine oa_u (i := 10) (listed' := #[tt,tt,tt,tt,tt,tt,tt,tt,tt,tt,tt]) rfl rfl rfl (o_store (l := lcs svs s.ls) (l' := lcs (svs.set (at_ / 64) u30) (s.ls.set (at_ / 64) (layL (at_ % 64 / 8) v s.ls[at_ / 64]))) sz84 rfl rfl hu1 (by rw [lcs_length hsv]; omega) (by rw [Nat.zero_add, Nat.add_zero]; exact lcs_set_sv (layL (at_ % 64 / 8) v s.ls[at_ / 64]) hsv hat rfl) (by repeat (first | exact upd_here | exact upd_pt | apply upd_left))) ?_; refine ta_done (by kernel_rfl) ?_; refine q_then_n ?_; refine sr ?_; refine tv (o_move rfl) ?_
      have hLL : (layL (at_ % 64 / 8) v s.ls[at_ / 64]).st.length = s.ls[at_ / 64].st.length + 1 := by simp [layL]
      have hLS : stc (layL (at_ % 64 / 8) v s.ls[at_ / 64]).st = stc s.ls[at_ / 64].st ++ wds ((seenL s.ls[at_ / 64]).set (at_ % 64 / 8) v) := by simp only [layL]; rw [stc_append, stc_one]
      have hfin := hf2 F u30 (layL (at_ % 64 / 8) v s.ls[at_ / 64])
      rw [hLL, hLS, ← onLine_at (f := layL (at_ % 64 / 8) v) hat] at hfin
      refine tl_pre (fun _ _ h => SP.drop_mid h) ?_; refine tl_eq hfin ?_; refine tl_pre (dev_back (s := layS at_ v s) (layS_wf hw hroom hv) (by unfold layS; rw [onLine_at hat]; simp [hsv]) (by unfold layS; rw [onLine_at hat]; exact hkv)) ?_; refine tl_c rfl (o_call bd58 rfl (done_f F d (layS at_ v s))) ?_; rintro _ _ ⟨rfl, rfl⟩; refine tv (o_assign rfl) ?_; refine nq ?_; refine tc_ret ?_; exact ⟨_, _, res1 rfl rfl, fun _ _ h => h, rfl, rfl⟩
    · skip
      refine oa_x (i := 6) (listed' := #[tt,tt,tt,tt,ff,tt,tt,ff,ff,ff,ff]) rfl rfl rfl (o_buildSliceK Try.underlying84 sz83 z83 rfl (by rw [wds_length, List.length_set]; exact hs8) (by decide)) ?_; rintro _ _ ⟨b29, rfl, rfl⟩; refine ta_eq (A' := F * R * pt bl (cl (lcs svs s.ls) 86) * pt d (cl (dcs bl s.ls.length s av) 80) * pt b8 (cl (wds ((seenL s.ls[at_ / 64]).set (at_ % 64 / 8) v)) 83) * Sl 8 (.slice a' s.ls[at_ / 64].st.length c') s.ls[at_ / 64].st.length (stc s.ls[at_ / 64].st) * pt b29 (cl (wds ((seenL s.ls[at_ / 64]).set (at_ % 64 / 8) v)) 83)) (by ac_rfl) ?_; refine ta_one (i := 4) (by kernel_rfl) ?_; refine oa_v (i := 4) (listed' := #[tt,tt,tt,tt,tt,tt,tt,ff,ff,ff,ff]) rfl rfl rfl (o_load p84 rfl (by repeat (first | exact has_here | exact has_pt | apply has_left)) hcell) ?_; refine ta_one (i := 7) (by kernel_rfl) ?_; refine oa_x (i := 7) (listed' := #[tt,tt,tt,tt,tt,tt,tt,tt,ff,ff,ff]) rfl rfl rfl (o_append1 Try.underlying84 Try.underlying84 sz83 by83 z83 rfl (by decide) (by decide) rfl rfl rfl (by rw [wds_length, List.length_set]; omega) (wds_all _) (by omega)) ?_; rintro u30 _ rfl; refine ta_have (fun _ _ h => sl_have h) fun ⟨_, _, hu, _, _, _⟩ => ?_
      have hu1 : oneC u30 = true := by rw [hu]; rfl
      refine ta_pure (i := 8) (listed' := #[tt,tt,tt,tt,tt,tt,tt,tt,tt,ff,ff]) rfl (by kernel_rfl) (by kernel_rfl) (by kernel_rfl) rfl rfl (o_nilCheck rfl) ?_; refine ta_pure (i := 9) (listed' := #[tt,tt,tt,tt,tt,tt,tt,tt,tt,tt,ff]) rfl (by kernel_rfl) (by kernel_rfl) (by kernel_rfl) rfl rfl (o_fieldAddr (o := 0) Try.underlying86 rfl rfl sz84 rfl) ?_; refine ta_one (i := 10) (by kernel_rfl) ?_; refine oa_u (i := 10) (listed' := #[tt,tt,tt,tt,tt,tt,tt,tt,tt,tt,tt]) rfl rfl rfl (o_store (l := lcs svs s.ls) (l' := lcs (svs.set (at_ / 64) u30) (s.ls.set (at_ / 64) (layL (at_ % 64 / 8) v s.ls[at_ / 64]))) sz84 rfl rfl hu1 (by rw [lcs_length hsv]; omega) (by rw [Nat.zero_add, Nat.add_zero]; exact lcs_set_sv (layL (at_ % 64 / 8) v s.ls[at_ / 64]) hsv hat rfl) (by repeat (first | exact upd_here | exact upd_pt | apply upd_left))) ?_; refine ta_done (by kernel_rfl) ?_; refine q_then_n ?_; refine sr ?_; refine tv (o_move rfl) ?_
      have hLL : (layL (at_ % 64 / 8) v s.ls[at_ / 64]).st.length = s.ls[at_ / 64].st.length + 1 := by simp [layL]
      have hLS : stc (layL (at_ % 64 / 8) v s.ls[at_ / 64]).st = stc s.ls[at_ / 64].st ++ wds ((seenL s.ls[at_ / 64]).set (at_ % 64 / 8) v) := by simp only [layL]; rw [stc_append, stc_one]
      have hfin := hf2 F u30 (layL (at_ % 64 / 8) v s.ls[at_ / 64])
      rw [hLL, hLS, ← onLine_at (f := layL (at_ % 64 / 8) v) hat] at hfin
      refine tl_pre (fun _ _ h => SP.drop_mid h) ?_; refine tl_eq hfin ?_; refine tl_pre (dev_back (s := layS at_ v s) (layS_wf hw hroom hv) (by unfold layS; rw [onLine_at hat]; simp [hsv]) (by unfold layS; rw [onLine_at hat]; exact hkv)) ?_; refine tl_c rfl (o_call bd58 rfl (done_f F d (layS at_ v s))) ?_; rintro _ _ ⟨rfl, rfl⟩; refine tv (o_assign rfl) ?_; refine nq ?_; refine tc_ret ?_; exact ⟨_, _, res1 rfl rfl, fun _ _ h => h, rfl, rfl⟩
/-- What Store8 answers, and the device behind it. -/
def st8 (p : Int) (v : Nat) (s : DevS) : Int × DevS :=
  if rdy s.ls.length s.off p 8 ≠ 0 then (rdy s.ls.length s.off p 8, s) else if p % 8 ≠ 0 then (6, s) else (doneE (layS p.toNat v s), doneS (layS p.toNat v s))
theorem rdy0 {n : Nat} {off : Bool} {p m : Int} (h : rdy n off p m = 0) : off = false ∧ 0 ≤ p ∧ 0 ≤ m ∧ p + m ≤ (n : Int) * 64 := by
  unfold rdy at h
  split at h
  · exact absurd h (by omega)
  · rename_i ho
    split at h
    · exact absurd h (by omega)
    · exact ⟨by simpa using ho, by omega, by omega, by omega⟩
theorem Store8_f (F : SP) (d v : Nat) (p : Int) (s : DevS) (hp : -9223372036854775808 ≤ p ∧ p ≤ 9223372036854775807) (hv : v < 18446744073709551616) (hroom : Room 1 s) :
    Fn Try.prog 77 #[.pointer (some ⟨d, 0, none⟩), .int .i64 p, .int .u64 (v : Nat)] (F * Dev d s) (fun r B => r = .int .i64 (st8 p v s).1 ∧ B = F * Dev d (st8 p v s).2) := by
  refine fn_enterW (args := [.pointer (some ⟨d, 0, none⟩), .int .i64 p, .int .u64 (v : Nat)]) Try.func77 rfl Try.ntmps77 (by simp) ?_; refine tc_dev fun hw bl svs av kvs hsv hkv => ?_
  have hpos := hw.pos
  have htop := hw.top
  refine sr ?_; refine tv (o_assign rfl) ?_; refine nq ?_; refine tc_seq ?_; refine sr ?_; refine tv (o_move rfl) ?_; refine tv (o_move rfl) ?_; refine tl_c rfl (o_call bd48 rfl (ready_f _ d bl s.ls.length s av dev_cells hpos htop p 8 hp (by omega))) ?_; rintro _ _ ⟨rfl, rfl⟩; refine tv (o_assign rfl) ?_; refine nq ?_; refine sr ?_; refine tv (o_move rfl) ?_; refine tv (o_nei rfl rfl) ?_; refine nq ?_; refine tc_cond rfl (fun h => ?_) (fun h => ?_)
  · try simp only [lv1, lv2, lv3, lv4, lv5, lv6, Bool.not_true, Bool.not_false] at h
    refine sr ?_; refine tv (o_move rfl) ?_; refine tv (o_assign rfl) ?_; refine nq ?_; refine tc_ret ?_; refine q_then_r ?_; exact ⟨.int .i64 (rdy s.ls.length s.off p 8), _, res1 rfl rfl, dev_back hw hsv hkv, by unfold st8; rw [if_pos h], by unfold st8; rw [if_pos h]⟩
  · simp only [bne_iff_ne, ne_eq, decide_eq_false_iff_not, Bool.not_eq_false', Bool.not_eq_true', decide_eq_true_eq] at h
    have hr0 := rdy0 (show rdy s.ls.length s.off p 8 = 0 by omega)
    obtain ⟨q, rfl⟩ := Int.eq_ofNat_of_zero_le hr0.2.1
    refine tc_skip ?_; refine q_then_n ?_; refine tc_seq ?_; refine sr ?_; refine tv (o_move rfl) ?_; refine tv (o_remI rfl rfl (by omega)) ?_; refine tv (o_nei rfl rfl) ?_; refine nq ?_; refine tc_cond rfl (fun h => ?_) (fun h => ?_)
    · try simp only [lv1, lv2, lv3, lv4, lv5, lv6, Bool.not_true, Bool.not_false] at h
      refine sr ?_; refine tv (o_assign rfl) ?_; refine nq ?_; refine tc_ret ?_; refine q_then_r ?_; exact ⟨.int .i64 6, _, res1 rfl rfl, dev_back hw hsv hkv, by unfold st8; rw [if_neg (by omega), if_pos (by omega)], by unfold st8; rw [if_neg (by omega), if_pos (by omega)]⟩
    · try simp only [lv1, lv2, lv3, lv4, lv5, lv6, Bool.not_true, Bool.not_false] at h
      refine tc_skip ?_; refine q_then_n ?_; refine sr ?_; refine tv (o_move rfl) ?_; refine tv (o_move rfl) ?_; refine tv (o_move rfl) ?_; refine tl_pre (dev_back hw hsv hkv) ?_; refine tl_c rfl (o_call bd71 rfl (lay_f F d q v s (by omega) hv hroom)) ?_; rintro _ _ ⟨rfl, rfl⟩; refine tv (o_assign rfl) ?_; refine nq ?_; refine tc_ret ?_; exact ⟨_, _, res1 rfl rfl, fun _ _ h => h, by unfold st8; rw [if_neg (by omega), if_neg (by omega)]; rfl, by unfold st8; rw [if_neg (by omega), if_neg (by omega)]; rfl⟩
end Go.Vl

namespace Go.Vl
open Go Go.Proofs
theorem cut_lt {b o c l k : Nat} (h : l < c) : cutAddr (some ⟨b, o, none⟩) c l k = some ⟨b, o + l * k, none⟩ := by
  unfold cutAddr; rw [if_neg (by omega)]; simp [addr_add]
def flushL (l : LineS) : LineS := { l with mark := (l.st.length : Int) - 1 }
def flushS (p : Nat) (s : DevS) : DevS := onLine flushL (p / 64) s
theorem flushL_wf {l : LineS} (h : WfL l) : WfL (flushL l) := by
  have := List.length_pos_iff.2 h.ne
  exact ⟨h.ne, h.eight, by simp only [flushL]; omega, by simp only [flushL]; omega, h.small, h.words⟩
theorem flushS_wf {p : Nat} {s : DevS} (hw : WfD s) : WfD (flushS p s) := onLine_wf hw fun l hl => flushL_wf (hw.line l hl)
/-- What Flush answers, and the device behind it. -/
def fl1 (p : Int) (s : DevS) : Int × DevS :=
  if rdy s.ls.length s.off p 1 ≠ 0 then (rdy s.ls.length s.off p 1, s) else (doneE (flushS p.toNat s), doneS (flushS p.toNat s))
/-- The first lines are changed. -/
def mp (f : LineS → LineS) (i : Nat) (ls : List LineS) : List LineS := ls.mapIdx fun j l => if j < i then f l else l
theorem mp_length (f i ls) : (mp f i ls).length = ls.length := by simp [mp]
theorem mp_zero (f) (ls : List LineS) : mp f 0 ls = ls := by
  apply List.ext_getElem?
  intro j; simp [mp, List.getElem?_mapIdx]
theorem mp_at (f) {i : Nat} {ls : List LineS} (hi : i < ls.length) : (mp f i ls)[i]'(by rw [mp_length]; exact hi) = ls[i] := by simp [mp]
theorem mp_set (f) {i : Nat} {ls : List LineS} (hi : i < ls.length) : (mp f i ls).set i (f ls[i]) = mp f (i + 1) ls := by
  apply List.ext_getElem?
  intro j
  by_cases hj : j = i
  · subst hj
    rw [List.getElem?_set_self (by rw [mp_length]; exact hi)]
    simp [mp, List.getElem?_mapIdx, hi]
  · rw [List.getElem?_set_ne (Ne.symm hj)]
    simp only [mp, List.getElem?_mapIdx]
    by_cases hlt : j < i
    · simp [hlt, show j < i + 1 by omega]
    · simp [hlt, show ¬ j < i + 1 by omega]
theorem mp_same (f) {i : Nat} {ls : List LineS} (hi : i < ls.length) (he : f ls[i] = ls[i]) : mp f (i + 1) ls = mp f i ls := by
  rw [← mp_set f hi, he]
  have := set_getElem (l := mp f i ls) (i := i) (by rw [mp_length]; exact hi)
  rwa [mp_at f hi] at this
theorem mp_map (f) (ls : List LineS) : mp f ls.length ls = ls.map f := by
  apply List.ext_getElem?
  intro j
  simp only [mp, List.getElem?_mapIdx, List.getElem?_map]
  rcases Nat.lt_or_ge j ls.length with h | h
  · simp [h]
  · simp [h]
def fenceL (l : LineS) : LineS := if 0 ≤ l.mark then ⟨l.st.drop l.mark.toNat, -1⟩ else l
def fenceS (s : DevS) : DevS := { s with ls := s.ls.map fenceL }
theorem fenceL_wf {l : LineS} (h : WfL l) : WfL (fenceL l) := by
  unfold fenceL
  split
  · have := h.hi
    refine ⟨by simp only [ne_eq, List.drop_eq_nil_iff]; omega, fun x hx => h.eight x (List.mem_of_mem_drop hx), by simp, by simp only []; omega, ?_, fun x hx => h.words x (List.mem_of_mem_drop hx)⟩
    have := h.small
    simp only [List.length_drop]; omega
  · exact h
theorem fenceS_wf {s : DevS} (hw : WfD s) : WfD (fenceS s) := ⟨by simp [fenceS]; exact hw.pos, by simp [fenceS]; exact hw.top, fun l hl => by
  simp only [fenceS, List.mem_map] at hl
  obtain ⟨m, hm, rfl⟩ := hl
  exact fenceL_wf (hw.line m hm), hw.arms, hw.after, hw.keeps⟩
/-- What Fence answers, and the device behind it. -/
def fe (s : DevS) : Int × DevS := if s.off then (5, s) else (doneE (fenceS s), doneS (fenceS s))
theorem rdy00 {n : Nat} {off : Bool} : rdy n off 0 0 = if off then 5 else 0 := by
  unfold rdy
  split
  · rfl
  · rw [if_neg (by omega)]
theorem Flush_f (F : SP) (d : Nat) (p : Int) (s : DevS) (hp : -9223372036854775808 ≤ p ∧ p ≤ 9223372036854775807) :
    Fn Try.prog 56 #[.pointer (some ⟨d, 0, none⟩), .int .i64 p] (F * Dev d s) (fun r B => r = .int .i64 (fl1 p s).1 ∧ B = F * Dev d (fl1 p s).2) := by
  refine fn_enterW (args := [.pointer (some ⟨d, 0, none⟩), .int .i64 p]) Try.func56 rfl Try.ntmps56 (by simp) ?_; refine tc_dev fun hw bl svs av kvs hsv hkv => ?_
  have hpos := hw.pos
  have htop := hw.top
  refine sr ?_; refine tv (o_assign rfl) ?_; refine nq ?_; refine tc_seq ?_; refine sr ?_; refine tv (o_move rfl) ?_; refine tv (o_move rfl) ?_; refine tl_c rfl (o_call bd48 rfl (ready_f _ d bl s.ls.length s av dev_cells hpos htop p 1 hp (by omega))) ?_; rintro _ _ ⟨rfl, rfl⟩; refine tv (o_assign rfl) ?_; refine nq ?_; refine sr ?_; refine tv (o_move rfl) ?_; refine tv (o_nei rfl rfl) ?_; refine nq ?_; refine tc_cond rfl (fun h => ?_) (fun h => ?_)
  · try simp only [lv1, lv2, lv3, lv4, lv5, lv6, Bool.not_true, Bool.not_false] at h
    refine sr ?_; refine tv (o_move rfl) ?_; refine tv (o_assign rfl) ?_; refine nq ?_; refine tc_ret ?_; refine q_then_r ?_; exact ⟨.int .i64 (rdy s.ls.length s.off p 1), _, res1 rfl rfl, dev_back hw hsv hkv, by unfold fl1; rw [if_pos h], by unfold fl1; rw [if_pos h]⟩
  · simp only [bne_iff_ne, ne_eq, decide_eq_false_iff_not, Bool.not_eq_false', Bool.not_eq_true', decide_eq_true_eq] at h
    have hr0 := rdy0 (show rdy s.ls.length s.off p 1 = 0 by omega)
    obtain ⟨q, rfl⟩ := Int.eq_ofNat_of_zero_le hr0.2.1
    have hat : q / 64 < s.ls.length := by omega
    obtain ⟨R, hf1, hf2⟩ := devC_focus (d := d) (bl := bl) (kvs := kvs) (av := av) (s := s) hsv hat
    refine tc_eq (hf1 F) ?_; refine tc_have (fun _ _ h => sl_have' rfl h) fun ⟨a', c', hvv, hn', hl', hrd⟩ => ?_
    have hwl : WfL s.ls[q / 64] := hw.line _ (List.getElem_mem _)
    have hlen : 0 < s.ls[q / 64].st.length := List.length_pos_iff.2 hwl.ne
    have hsm := hwl.small
    have hcell : (lcs svs s.ls)[0 + q / 64 * 2 + 0]? = some (.slice a' s.ls[q / 64].st.length c') := by rw [Nat.zero_add, Nat.add_zero, lcs_sv hsv (by omega), hvv]
    refine tc_skip ?_; refine q_then_n ?_; refine sr ?_; refine tv (o_move rfl) ?_; refine tv (o_nilCheck rfl) ?_; refine tv (o_fieldAddr (o := 0) Try.underlying80 rfl rfl sz77 rfl) ?_; refine tv (o_load p77 rfl (by repeat (first | exact has_here | exact has_pt | apply has_left)) rfl) ?_; refine tv (o_move rfl) ?_; refine tv (o_quoN (a := q) (b := 64) rfl rfl (by omega)) ?_; refine tv (o_indexAddrN Try.underlying77 sz86 rfl rfl (by omega)) ?_; refine tv (o_assign rfl) ?_; refine nq ?_; refine sr ?_; refine tv (o_move rfl) ?_; refine tv (o_move rfl) ?_; refine tv (o_nilCheck rfl) ?_; refine tv (o_fieldAddr (o := 0) Try.underlying86 rfl rfl sz84 rfl) ?_; refine tv (o_load p84 rfl (by repeat (first | exact has_here | exact has_pt | apply has_left)) hcell) ?_; refine tv (o_len Try.underlying84 rfl) ?_; refine tv (by first | exact o_subI rfl rfl (by omega) | exact o_sub rfl rfl) ?_; refine tv (o_nilCheck rfl) ?_; refine tv (o_fieldAddr (o := 1) Try.underlying86 rfl rfl sz3 rfl) ?_; refine tl_u rfl (o_store (l := lcs svs s.ls) (l' := lcs svs (s.ls.set (q / 64) (flushL s.ls[q / 64]))) sz3 rfl rfl rfl (by rw [lcs_length hsv]; omega) (by rw [Nat.zero_add]; exact lcs_set_mark (flushL s.ls[q / 64]) hsv hat) (by repeat (first | exact upd_here | exact upd_pt | apply upd_left))) ?_
    refine nq ?_; refine sr ?_; refine tv (o_move rfl) ?_
    have hfin := hf2 F svs[q / 64] (flushL s.ls[q / 64])
    rw [set_getElem (by omega), ← onLine_at (f := flushL) hat] at hfin
    refine tl_eq hfin ?_; refine tl_pre (dev_back (s := flushS q s) (flushS_wf hw) (by unfold flushS; rw [onLine_at hat]; simp [hsv]) (by unfold flushS; rw [onLine_at hat]; exact hkv)) ?_; refine tl_c rfl (o_call bd58 rfl (done_f F d (flushS q s))) ?_; rintro _ _ ⟨rfl, rfl⟩; refine tv (o_assign rfl) ?_; refine nq ?_; refine tc_ret ?_; exact ⟨.int .i64 (doneE (flushS q s)), _, res1 rfl rfl, fun _ _ h => h, by unfold fl1; rw [if_neg (by omega)]; rfl, by unfold fl1; rw [if_neg (by omega)]; rfl⟩
end Go.Vl

namespace Go.Vl
open Go Go.Proofs
/-- What is to be read of a device. -/
structure DevR (A : SP) (d bl : Nat) (svs : List Value) (av : Value) (s : DevS) : Prop where
  d : Cells A d 0 (dcs bl s.ls.length s av)
  b : Cells A bl 0 (lcs svs s.ls)
  len : svs.length = s.ls.length
  st : ∀ i (h : i < s.ls.length), ∃ a c, svs[i]? = some (.slice a s.ls[i].st.length c) ∧ s.ls[i].st.length ≤ c ∧ Rd A a (stc s.ls[i].st)
  wf : WfD s
theorem DevR.left {A X : SP} {d bl : Nat} {svs : List Value} {av : Value} {s : DevS} (h : DevR A d bl svs av s) : DevR (A * X) d bl svs av s :=
  ⟨h.d.left, h.b.left, h.len, fun i hi => by obtain ⟨a, c, h1, h2, h3⟩ := h.st i hi; exact ⟨a, c, h1, h2, h3.left⟩, h.wf⟩
theorem devR_of {F : SP} {d bl : Nat} {svs kvs : List Value} {av : Value} {s : DevS} (hw : WfD s) (hsv : svs.length = s.ls.length) {g : Gh} {w : World} (hs : sat g w (F * DevC d bl svs av kvs s)) : DevR (F * DevC d bl svs av kvs s) d bl svs av s :=
  ⟨dev_cells, cells_all devC_bl (lcs_length hsv), hsv, fun i hi => by
    obtain ⟨R, hf1, _⟩ := devC_focus (d := d) (bl := bl) (kvs := kvs) (av := av) (s := s) hsv hi
    obtain ⟨a, c, h1, h2, _, h3⟩ := sl_have' (hf1 F) hs
    exact ⟨a, c, by rw [List.getElem?_eq_getElem (by omega), h1], h2, h3⟩, hw⟩
/-- A call that only reads the device and makes something. -/
theorem fn_devR {P : Program} {f : FuncId} {args : Array Value} {F : SP} {d : Nat} {s : DevS} {Q : Value → SP → Prop}
    (h : WfD s → ∀ A bl svs av, DevR A d bl svs av s → Fn P f args A fun r B => ∃ X, B = A * X ∧ Q r X) :
    Fn P f args (F * Dev d s) fun r B => ∃ X, B = F * Dev d s * X ∧ Q r X := fun g w hs => by
  obtain ⟨hw, bl, svs, av, kvs, h1, h2, hs'⟩ := dev_iff.1 hs
  refine (h hw _ bl svs av (devR_of hw h1 hs') g w hs').mono ?_; rintro e w' ⟨v, B, e1, ⟨X, rfl, hq⟩, hB⟩; refine ⟨v, F * Dev d s * X, e1, ⟨X, rfl, hq⟩, ?_⟩
  rw [star_swap] at hB ⊢
  exact dev_back hw h1 h2 _ _ hB
theorem fn_devR0 {P : Program} {f : FuncId} {args : Array Value} {F : SP} {d : Nat} {s : DevS} {q : Value → Prop}
    (h : WfD s → ∀ A bl svs av, DevR A d bl svs av s → Fn P f args A fun r B => q r ∧ A = B) :
    Fn P f args (F * Dev d s) fun r B => q r ∧ F * Dev d s = B := fun g w hs => by
  obtain ⟨hw, bl, svs, av, kvs, h1, h2, hs'⟩ := dev_iff.1 hs
  refine (h hw _ bl svs av (devR_of hw h1 hs') g w hs').mono ?_; rintro e w' ⟨v, B, e1, ⟨hq, rfl⟩, hB⟩; exact ⟨v, F * Dev d s, e1, ⟨hq, rfl⟩, dev_back hw h1 h2 _ _ hB⟩
theorem seenR_f {A : SP} {d bl : Nat} {svs : List Value} {av : Value} {s : DevS} (h : DevR A d bl svs av s) {i : Nat} (hi : i < s.ls.length) :
    Fn Try.prog 35 #[.pointer (some ⟨bl, 0 + i * 2, none⟩)] A (fun r B => r = .agg (wds (seenL s.ls[i])).toArray ∧ A = B) := by
  obtain ⟨a, c, h1, h2, h3⟩ := h.st i hi
  have hwl := h.wf.line _ (List.getElem_mem hi)
  have hp := List.length_pos_iff.2 hwl.ne
  have hb := h.b (i * 2) (.slice a s.ls[i].st.length c) (by
    have := lcs_sv (vs := svs) (ls := s.ls) (i := i) h.len (by have := h.len; omega)
    rw [this]; rw [List.getElem?_eq_getElem (by have := h.len; omega)] at h1; exact h1)
  refine (seen_f A bl (0 + i * 2) c a s.ls[i].st hb h3 hwl.eight hp hwl.small).mono fun v B ⟨e, e'⟩ => ⟨?_, e'⟩
  rw [e, seenL_eq hp]
def img (ls : List LineS) : List Nat := ls.flatMap fun l => lb (seenL l)
/-- All bytes, as they are seen. -/
def imgS (s : DevS) : List Nat := img s.ls
theorem img_take {ls : List LineS} {i : Nat} (h : i < ls.length) : img (ls.take (i + 1)) = img (ls.take i) ++ lb (seenL ls[i]) := by
  unfold img; rw [List.take_succ_eq_append_getElem h, List.flatMap_append]; simp only [List.flatMap_cons, List.flatMap_nil, List.append_nil]
theorem seen8 {l : LineS} (h : WfL l) : (lb (seenL l)).length = 64 := by rw [lb_length, h.eight _ (seenL_mem h)]
theorem img_length {ls : List LineS} (h : ∀ l ∈ ls, WfL l) : (img ls).length = ls.length * 64 := by
  induction ls with
  | nil => rfl
  | cons l ls ih =>
    have := ih fun x hx => h x (by simp [hx])
    have h8 := seen8 (h l (by simp))
    simp only [img, List.flatMap_cons, List.length_append, List.length_cons] at *
    omega
theorem img_at : ∀ {ls : List LineS} {i : Nat} (_ : ∀ l ∈ ls, WfL l) (hi : i < ls.length), (img ls).drop (i * 64) = lb (seenL ls[i]) ++ img (ls.drop (i + 1))
  | l :: ls, 0, _, _ => by simp [img]
  | l :: ls, i + 1, h, hi => by
    have h8 := seen8 (h l (by simp))
    have e : (i + 1) * 64 = (lb (seenL l)).length + i * 64 := by omega
    rw [e]
    show ((lb (seenL l)) ++ img ls).drop _ = _
    rw [← List.drop_drop, List.drop_left]
    exact img_at (fun x hx => h x (by simp [hx])) (by simpa using hi)
theorem img_chunk {ls : List LineS} {q c : Nat} (h : ∀ l ∈ ls, WfL l) (hq : q / 64 < ls.length) (hc : c ≤ 64 - q % 64) :
    ((lb (seenL ls[q / 64])).drop (q % 64)).take c = ((img ls).drop q).take c := by
  have h8 := seen8 (h _ (List.getElem_mem hq))
  have e : q = q / 64 * 64 + q % 64 := by omega
  conv => rhs; rw [e]
  rw [← List.drop_drop, img_at h hq, List.drop_append_of_le_length (by omega), List.take_append_of_le_length (by rw [List.length_drop]; omega)]
theorem load_step {W : List Nat} {ls : List LineS} {p m k c : Nat} (h : ∀ l ∈ ls, WfL l) (hW : W = ((img ls).drop p).take m) (hp : p + m ≤ ls.length * 64) (hk : k < m) (hc : c = min (64 - (p + k) % 64) (m - k)) (hq : (p + k) / 64 < ls.length) (z : Value) :
    splice (bys (W.take k) ++ List.replicate (m - k) z) k ((bys ((lb (seenL ls[(p + k) / 64])).drop ((p + k) % 64))).take c) = bys (W.take (k + c)) ++ List.replicate (m - (k + c)) z := by
  have hl := img_length h
  have hWl : W.length = m := by rw [hW, List.length_take, List.length_drop]; omega
  have h8 := seen8 (h _ (List.getElem_mem hq))
  have e1 : (bys ((lb (seenL ls[(p + k) / 64])).drop ((p + k) % 64))).take c = bys ((W.drop k).take c) := by
    unfold bys
    rw [← List.map_take, img_chunk h hq (by omega), hW, List.drop_take, List.drop_drop, List.take_take]
    congr 2; omega
  rw [e1, splice_eq (by simp [bys_length, hWl]; omega)]
  have e2 : (bys (W.take k)).length = k := by rw [bys_length, List.length_take]; omega
  have e3 : (bys ((W.drop k).take c)).length = c := by rw [bys_length, List.length_take, List.length_drop]; omega
  rw [e3, List.take_left' e2, ← List.drop_drop, List.drop_left' e2, List.drop_replicate, List.take_add, bys_append]
  congr 2; omega
/-- Lists of bytes, each owned. -/
def Parts : List Value → List (List Nat) → SP
  | v :: vs, x :: xs => Parts vs xs * Sl 1 v x.length (bys x)
  | [], [] => emp
  | _, _ => pure_ False
theorem parts_snoc : ∀ {vs : List Value} {ls : List (List Nat)} {v : Value} {x : List Nat} (_ : vs.length = ls.length), Parts (vs ++ [v]) (ls ++ [x]) = Parts vs ls * Sl 1 v x.length (bys x)
  | [], [], _, _, _ => rfl
  | u :: vs, y :: ls, v, x, h => by
    show Parts (vs ++ [v]) (ls ++ [x]) * Sl 1 u y.length (bys y) = _
    rw [parts_snoc (by simpa using h)]
    show _ = Parts vs ls * Sl 1 u y.length (bys y) * Sl 1 v x.length (bys x)
    rw [star_swap]
theorem Image_f (A : SP) (d bl : Nat) (svs : List Value) (av : Value) (s : DevS) (hR : DevR A d bl svs av s) :
    Fn Try.prog 15 #[.pointer (some ⟨d, 0, none⟩)] (A) (fun r B => ∃ X, B = A * X ∧ X = Sl 1 r (s.ls.length * 64) (bys (imgS s))) := by
  refine fn_enterW (args := [.pointer (some ⟨d, 0, none⟩)]) Try.func15 rfl Try.ntmps15 (by simp) ?_
  have hpos := hR.wf.pos
  have htop := hR.wf.top
  refine sr ?_; refine tv (o_assign rfl) ?_; refine nq ?_; refine tc_seq ?_; refine sr ?_; refine tv (o_move rfl) ?_; refine tl_c rfl (o_call bd32 rfl (none_f _ d bl s.ls.length s av hR.d hpos htop)) ?_; rintro _ _ ⟨rfl, rfl⟩; refine nq ?_; refine tc_cond rfl (fun h => ?_) (fun h => ?_)
  · (exfalso; first | (revert h; simp; done) | (revert h; simp; omega) | (simp at h; omega) | omega)
  · try simp only [lv1, lv2, lv3, lv4, lv5, lv6, Bool.not_true, Bool.not_false] at h
    refine tc_skip ?_; refine q_then_n ?_; refine sr ?_; refine tv (o_move rfl) ?_; refine tl_c rfl (o_call bd34 rfl (Size_f _ d bl s.ls.length s av hR.d hpos htop)) ?_; rintro _ _ ⟨rfl, rfl⟩; refine tl_x rfl (o_makeSlice (len := 0) (cap := s.ls.length * 64) Try.underlying22 sz5 by5 z5 rfl rfl (by show Value.int .i64 ((s.ls.length : Int) * 64) = _; congr 1) (by omega) (by omega) (by omega)) ?_; rintro _ _ ⟨b9, rfl, rfl⟩; refine tl_pre (fun _ _ h => sl_new (k := 1) (n := 0) (cap := s.ls.length * 64) (xs := []) h (by omega) (by simp) (by simp)) ?_; refine tv (o_assign rfl) ?_; refine nq ?_; refine tc_seq ?_; refine sr ?_; refine tv (o_move rfl) ?_; refine tv (o_nilCheck rfl) ?_; refine tv (o_fieldAddr (o := 0) Try.underlying80 rfl rfl sz77 rfl) ?_; refine tv (o_loadC p77 rfl (hR.d 0 _ rfl).left) ?_; refine tv (o_len Try.underlying77 rfl) ?_; refine tv (o_move rfl) ?_; refine nq ?_; refine tc_block ?_; refine tc_loop (fun k ρ B => ∃ (i : Nat) (v : Value), i ≤ s.ls.length ∧ k = s.ls.length - i ∧ ρ 0 = .pointer (some ⟨d, 0, none⟩) ∧ ρ 3 = v ∧ ρ 14 = .int .i64 s.ls.length ∧ ρ 15 = .int .i64 i ∧ B = A * Sl 1 v (i * 64) (bys (img (s.ls.take i)))) (m := s.ls.length) ?_ ?_
    · exact ⟨0, .slice (some ⟨b9, 0, none⟩) 0 (s.ls.length * 64), by omega, rfl, rfl, rfl, rfl, rfl, rfl⟩
    · intro k ρ B hI
      obtain ⟨i, v, hi, rfl, h0, h3, h14, h15, rfl⟩ := hI
      refine tc_env (d := 0) h0 ?_; refine tc_env (d := 3) h3 ?_; refine tc_env (d := 14) h14 ?_; refine tc_env (d := 15) h15 ?_; refine sr ?_; refine tv (o_lss rfl rfl) ?_; refine nq ?_; refine tc_seq ?_; refine tc_cond rfl (fun h => ?_) (fun h => ?_)
      · simp only [decide_eq_true_eq] at h
        have hi' : i < s.ls.length := by omega
        have hwl := hR.wf.line _ (List.getElem_mem hi')
        refine tc_skip ?_; refine q_then_n ?_; refine tc_seq ?_; refine tc_block ?_; refine sr ?_; refine tv (o_move rfl) ?_; refine tv (o_assign rfl) ?_; refine nq ?_; refine tc_reg ?_; refine tv (o_move rfl) ?_; refine tv (o_move rfl) ?_; refine tv (o_nilCheck rfl) ?_; refine tv (o_fieldAddr (o := 0) Try.underlying80 rfl rfl sz77 rfl) ?_; refine tv (o_loadC p77 rfl (hR.d 0 _ rfl).left) ?_; refine tv (o_move rfl) ?_; refine tv (o_indexAddrN Try.underlying77 sz86 rfl rfl (by omega)) ?_; refine tl_c rfl (o_call bd35 rfl (seenR_f hR.left hi')) ?_; rintro _ _ ⟨rfl, rfl⟩; refine tl_c rfl (o_call bd36 rfl (bytes_f _ (seenL s.ls[i]) (hwl.eight _ (seenL_mem hwl)) (hwl.words _ (seenL_mem hwl)))) ?_; rintro u26 _ ⟨_, rfl, rfl⟩; refine tl_have (fun _ _ h => sl_have h) fun ⟨a2, c2, hv2, _, hl2, hrd2⟩ => ?_
        subst hv2
        refine tl_x rfl (o_append2 Try.underlying22 Try.underlying22 sz5 by5 z5 rfl (by decide) (by decide) rfl rfl (star_swap _ _ _) hrd2 hl2 (bys_all _) (by omega)) ?_; rintro u27 _ rfl; refine tl_pre (fun _ _ h => h.drop2) ?_; refine tv (o_assign rfl) ?_; refine tl_nil ?_; refine q_block_n (q_then_n ?_); refine tc_reg ?_; refine tv (by first | exact o_addI rfl rfl (by omega) | exact o_add rfl rfl) ?_; refine tv (o_move rfl) ?_; refine nq ?_; exact ⟨_, by omega, i + 1, u27, by omega, rfl, rfl, rfl, rfl, rfl, by rw [img_take hi', bys_append, Nat.add_mul]⟩
      · try simp only [lv1, lv2, lv3, lv4, lv5, lv6, Bool.not_true, Bool.not_false] at h
        refine tc_exit ?_; refine q_then_e (q_then_e (q_block_x (q_then_n ?_))); refine sr ?_; refine tv (o_move rfl) ?_; refine tv (o_assign rfl) ?_; refine nq ?_; refine tc_ret ?_
        obtain rfl : i = s.ls.length := by omega
        rw [List.take_length]
        exact ⟨v, _, res1 rfl rfl, fun _ _ h => h, _, rfl, rfl⟩
theorem LoadNo_f (A : SP) (d bl : Nat) (svs : List Value) (av : Value) (s : DevS) (hR : DevR A d bl svs av s) (p m : Int) (hp : -9223372036854775808 ≤ p ∧ p ≤ 9223372036854775807) (hm : -9223372036854775808 ≤ m ∧ m ≤ 9223372036854775807) (hno : rdy s.ls.length s.off p m ≠ 0) :
    Fn Try.prog 28 #[.pointer (some ⟨d, 0, none⟩), .int .i64 p, .int .i64 m] (A) (fun r B => r = .tuple #[.slice none 0 0, .int .i64 (rdy s.ls.length s.off p m)] ∧ A = B) := by
  refine fn_enter (args := [.pointer (some ⟨d, 0, none⟩), .int .i64 p, .int .i64 m]) Try.func28 rfl Try.ntmps28 (by simp) ?_; refine sr ?_; refine tv (o_assign rfl) ?_; refine tv (o_assign rfl) ?_; refine nq ?_; refine tc_seq ?_; refine sr ?_; refine tv (o_move rfl) ?_; refine tv (o_move rfl) ?_; refine tv (o_move rfl) ?_; refine tl_c rfl (o_call bd48 rfl (ready_f _ d bl s.ls.length s av hR.d hR.wf.pos hR.wf.top p m hp hm)) ?_; rintro _ _ ⟨rfl, rfl⟩; refine tv (o_assign rfl) ?_; refine nq ?_; refine sr ?_; refine tv (o_move rfl) ?_; refine tv (o_nei rfl rfl) ?_; refine nq ?_; refine tc_cond rfl (fun h => ?_) (fun h => ?_)
  · try simp only [lv1, lv2, lv3, lv4, lv5, lv6, Bool.not_true, Bool.not_false] at h
    refine sr ?_; refine tv (o_move rfl) ?_; refine tv (o_assign rfl) ?_; refine tv (o_assign rfl) ?_; refine nq ?_; refine tc_ret ?_; refine q_then_r ?_; exact ⟨.tuple #[.slice none 0 0, .int .i64 (rdy s.ls.length s.off p m)], res2 rfl rfl rfl, rfl, rfl⟩
  · exfalso; simp [hno] at h
theorem Load_f (A : SP) (d bl : Nat) (svs : List Value) (av : Value) (s : DevS) (p m : Nat) (W : List Nat) (hR : DevR A d bl svs av s) (hoff : s.off = false) (hpm : p + m ≤ s.ls.length * 64) (hW : W = ((imgS s).drop p).take m) :
    Fn Try.prog 28 #[.pointer (some ⟨d, 0, none⟩), .int .i64 (p : Nat), .int .i64 (m : Nat)] (A) (fun r B => ∃ X, B = A * X ∧ ∃ u, r = .tuple #[u, .int .i64 0] ∧ X = Sl 1 u m (bys W)) := by
  refine fn_enterW (args := [.pointer (some ⟨d, 0, none⟩), .int .i64 (p : Nat), .int .i64 (m : Nat)]) Try.func28 rfl Try.ntmps28 (by simp) ?_
  have hpos := hR.wf.pos
  have htop := hR.wf.top
  have hok : rdy s.ls.length s.off p m = 0 := by unfold rdy; rw [hoff, if_neg (by simp), if_neg (by omega)]
  have hWl : W.length = m := by rw [hW, List.length_take, List.length_drop, imgS, img_length hR.wf.line]; omega
  refine sr ?_; refine tv (o_assign rfl) ?_; refine tv (o_assign rfl) ?_; refine nq ?_; refine tc_seq ?_; refine sr ?_; refine tv (o_move rfl) ?_; refine tv (o_move rfl) ?_; refine tv (o_move rfl) ?_; refine tl_c rfl (o_call bd48 rfl (ready_f _ d bl s.ls.length s av hR.d hR.wf.pos hR.wf.top p m (by omega) (by omega))) ?_; rintro _ _ ⟨rfl, rfl⟩; refine tv (o_assign rfl) ?_; refine nq ?_; refine sr ?_; refine tv (o_move rfl) ?_; refine tv (o_nei rfl rfl) ?_; refine nq ?_; refine tc_cond rfl (fun h => ?_) (fun h => ?_)
  · exfalso; simp [hok] at h
  · try simp only [lv1, lv2, lv3, lv4, lv5, lv6, Bool.not_true, Bool.not_false] at h
    refine tc_skip ?_; refine q_then_n ?_; refine sr ?_; refine tv (o_move rfl) ?_; refine tl_x rfl (o_makeSlice (len := m) (cap := m) Try.underlying22 sz5 by5 z5 rfl rfl rfl (by omega) (by omega) (by omega)) ?_; rintro _ _ ⟨b21, rfl, rfl⟩; refine tv (o_assign rfl) ?_; refine nq ?_; refine tc_seq ?_; refine sr ?_; refine tv (o_assign rfl) ?_; refine nq ?_; refine tc_block ?_; refine tc_loop (fun j ρ B => ∃ (k : Nat), k ≤ m ∧ j = m - k ∧ ρ 0 = .pointer (some ⟨d, 0, none⟩) ∧ ρ 1 = .int .i64 (p : Nat) ∧ ρ 2 = .int .i64 (m : Nat) ∧ ρ 9 = .slice (some ⟨b21, 0, none⟩) m m ∧ ρ 10 = .int .i64 (k : Nat) ∧ B = A * pt b21 (cl (bys (W.take k) ++ List.replicate (m - k) (.int .u8 0)) 5)) (m := m) ?_ ?_
    · exact ⟨0, by omega, rfl, rfl, rfl, rfl, rfl, rfl, rfl⟩
    · intro k ρ B hI
      obtain ⟨k, hk, rfl, h0, h1, h2, h9, h10, rfl⟩ := hI
      refine tc_env (d := 0) h0 ?_; refine tc_env (d := 1) h1 ?_; refine tc_env (d := 2) h2 ?_; refine tc_env (d := 9) h9 ?_; refine tc_env (d := 10) h10 ?_; refine tc_seq ?_; refine sr ?_; refine tv (o_move rfl) ?_; refine tv (o_move rfl) ?_; refine tv (o_lss rfl rfl) ?_; refine nq ?_; refine tc_cond rfl (fun h => ?_) (fun h => ?_)
      · simp only [decide_eq_true_eq] at h
        have hk' : k < m := by omega
        have hq : (p + k) / 64 < s.ls.length := by omega
        have hwl := hR.wf.line _ (List.getElem_mem hq)
        have h64 := seen8 hwl
        refine tc_skip ?_; refine q_then_n ?_; refine tc_block ?_; refine sr ?_; refine tv (o_move rfl) ?_; refine tv (o_move rfl) ?_; refine tv (by first | exact o_addI rfl rfl (by omega) | exact o_add rfl rfl) ?_; refine tl_env (d := 27) (v := .int .i64 ((p + k : Nat) : Int)) rfl ?_; refine tv (o_assign rfl) ?_; refine nq ?_; refine sr ?_; refine tv (o_move rfl) ?_; refine tv (o_nilCheck rfl) ?_; refine tv (o_fieldAddr (o := 0) Try.underlying80 rfl rfl sz77 rfl) ?_; refine tv (o_loadC p77 rfl (hR.d 0 _ rfl).left) ?_; refine tv (o_move rfl) ?_; refine tv (o_quoN (a := p + k) (b := 64) rfl rfl (by omega)) ?_; refine tv (o_indexAddrN (j := (p + k) / 64) Try.underlying77 sz86 rfl rfl hq) ?_; refine tl_c rfl (o_call bd35 rfl (seenR_f hR.left hq)) ?_; rintro _ _ ⟨rfl, rfl⟩; refine tl_c rfl (o_call bd36 rfl (bytes_f _ (seenL s.ls[(p + k) / 64]) (hwl.eight _ (seenL_mem hwl)) (hwl.words _ (seenL_mem hwl)))) ?_; rintro u36 _ ⟨_, rfl, rfl⟩; refine tl_have (fun _ _ h => sl_have h) fun ⟨a2, c2, hv2, hnc2, hl2, hrd2⟩ => ?_
        subst hv2
        refine tv (o_assign rfl) ?_; refine nq ?_; refine tc_rega mo ?_
        show TA _ _ _ _ 11 #[ff,ff,ff,ff,ff,ff,ff,ff,ff,ff,ff] _ _
        refine ta_pure (i := 0) (listed' := #[tt,ff,ff,ff,ff,ff,ff,ff,ff,ff,ff]) rfl (by kernel_rfl) (by kernel_rfl) (by kernel_rfl) rfl rfl (o_move rfl) ?_; refine ta_pure (i := 1) (listed' := #[tt,tt,ff,ff,ff,ff,ff,ff,ff,ff,ff]) rfl (by kernel_rfl) (by kernel_rfl) (by kernel_rfl) rfl rfl (o_move rfl) ?_; refine ta_pure (i := 2) (listed' := #[tt,tt,tt,ff,ff,ff,ff,ff,ff,ff,ff]) rfl (by kernel_rfl) (by kernel_rfl) (by kernel_rfl) rfl rfl (o_move rfl) ?_; refine ta_pure (i := 3) (listed' := #[tt,tt,tt,tt,ff,ff,ff,ff,ff,ff,ff]) rfl (by kernel_rfl) (by kernel_rfl) (by kernel_rfl) rfl rfl (o_slice (l := k) (h := m) Try.underlying22 sz5 rfl (bnd_nat (r := k) rfl) bnd_none (by omega) (by omega)) ?_; refine ta_pure (i := 4) (listed' := #[tt,tt,tt,tt,tt,ff,ff,ff,ff,ff,ff]) rfl (by kernel_rfl) (by kernel_rfl) (by kernel_rfl) rfl rfl (o_move rfl) ?_; refine ta_pure (i := 5) (listed' := #[tt,tt,tt,tt,tt,tt,ff,ff,ff,ff,ff]) rfl (by kernel_rfl) (by kernel_rfl) (by kernel_rfl) rfl rfl (o_move rfl) ?_; refine ta_pure (i := 6) (listed' := #[tt,tt,tt,tt,tt,tt,tt,ff,ff,ff,ff]) rfl (by kernel_rfl) (by kernel_rfl) (by kernel_rfl) rfl rfl (o_remN (a := p + k) (b := 64) rfl rfl (by omega)) ?_; refine ta_pure (i := 7) (listed' := #[tt,tt,tt,tt,tt,tt,tt,tt,ff,ff,ff]) rfl (by kernel_rfl) (by kernel_rfl) (by kernel_rfl) rfl rfl (o_slice (l := (p + k) % 64) (h := 64) Try.underlying22 sz5 rfl (bnd_nat (r := (p + k) % 64) rfl) bnd_none (by omega) (by omega)) ?_
        obtain ⟨b2, o2, rfl, hcs2⟩ := hrd2.some (by rw [bys_length]; omega)
        have hlt2 : (p + k) % 64 < c2 := by omega
        have hsub : Rd (A * pt b21 (cl (bys (W.take k) ++ List.replicate (m - k) (.int .u8 0)) 5) * Sl 1 (.slice (some ⟨b2, o2, none⟩) 64 c2) 64 (bys (lb (seenL s.ls[(p + k) / 64])))) (cutAddr (some ⟨b2, o2, none⟩) c2 ((p + k) % 64) 1) (bys ((lb (seenL s.ls[(p + k) / 64])).drop ((p + k) % 64))) := by
          rw [cut_lt hlt2]
          refine rd_cells (hcs2.sub ((p + k) % 64 * 1) (64 - (p + k) % 64) ?_)
          unfold bys
          rw [Nat.mul_one, List.map_drop, List.take_of_length_le]
          rw [List.length_drop, List.length_map]; omega
        refine ta_one (i := 8) (by kernel_rfl) ?_; refine oa_x (i := 8) (listed' := #[tt,tt,tt,tt,tt,tt,tt,tt,tt,ff,ff]) rfl rfl rfl (o_copy (b := b21) (off := k) (dl := m - k) (dc := m - k) (m := min (64 - (p + k) % 64) (m - k)) (l' := bys (W.take (k + min (64 - (p + k) % 64) (m - k))) ++ List.replicate (m - (k + min (64 - (p + k) % 64) (m - k))) (.int .u8 0)) Try.underlying22 sz5 (by show Value.slice (cutAddr (some ⟨b21, 0, none⟩) m k 1) (m - k) (m - k) = _; rw [cut_lt hk', Nat.zero_add, Nat.mul_one]) rfl hsub (by rw [bys_length, List.length_drop]; omega) rfl bys_oneC (by rw [List.length_append, bys_length, List.length_take, List.length_replicate]; omega) (load_step hR.wf.line hW hpm hk' rfl hq _) (upd_left upd_here)) ?_; rintro _ _ ⟨rfl, rfl⟩; refine ta_pre (fun _ _ h => h.left) ?_; refine ta_pure (i := 9) (listed' := #[tt,tt,tt,tt,tt,tt,tt,tt,tt,tt,ff]) rfl (by kernel_rfl) (by kernel_rfl) (by kernel_rfl) rfl rfl (by first | exact o_addI rfl rfl (by omega) | exact o_add rfl rfl) ?_; refine ta_pure (i := 10) (listed' := #[tt,tt,tt,tt,tt,tt,tt,tt,tt,tt,tt]) rfl (by kernel_rfl) (by kernel_rfl) (by kernel_rfl) rfl rfl (o_assign rfl) ?_; refine ta_done (by kernel_rfl) ?_; refine q_block_n (q_then_n ?_); exact ⟨_, by omega, k + min (64 - (p + k) % 64) (m - k), by omega, rfl, rfl, rfl, rfl, rfl, rfl, rfl⟩
      · try simp only [lv1, lv2, lv3, lv4, lv5, lv6, Bool.not_true, Bool.not_false] at h
        refine tc_exit ?_; refine q_then_e (q_then_e (q_block_x (q_then_n ?_))); refine sr ?_; refine tv (o_move rfl) ?_; refine tv (o_assign rfl) ?_; refine tv (o_assign rfl) ?_; refine nq ?_; refine tc_ret ?_
        obtain rfl : k = m := by omega
        rw [List.take_of_length_le (by omega), Nat.sub_self]
        exact ⟨.tuple #[.slice (some ⟨b21, 0, none⟩) k k, .int .i64 0], _, res2 rfl rfl rfl, fun _ _ h => sl_new (k := 1) (n := k) (cap := k) (xs := bys W) h (by omega) (by simp [bys_length, hWl]) (List.take_of_length_le (by simp [bys_length, hWl]) |>.trans (by simp)), _, rfl, _, rfl, rfl⟩
end Go.Vl

namespace Go.Vl
open Go Go.Proofs
/-- What Contents tells. -/
def ctS (i : Nat) (s : DevS) : List (List Nat) := (s.ls.getD i ⟨[], 0⟩).st.map lb
end Go.Vl

namespace Go.Vl
open Go Go.Proofs
section
variable {P : Program} {n : Nat} {ρ : Env} {A : SP} {dst : Option Tmp} {ty : TypeId} {pos : String} {after : Array Edge} {gd : Option (Nat × Bool)}
theorem o_sliceLt {t e : TypeId} {x : Operand} {lo hi : Option Operand} {b o : Nat} {len cap l h k : Nat} (hu : P.underlying t = some (.slice e)) (hk : szE P e = some k) (hx : ev n ρ x = .slice (some ⟨b, o, none⟩) len cap)
    (hl : bnd n ρ lo 0 l) (hh : bnd n ρ hi len h) (h1 : l ≤ h) (h2 : h ≤ cap) (h3 : l < cap) :
    OpV P n ρ A ⟨dst, .slice t x lo hi none, ty, pos, after, gd⟩ (.slice (some ⟨b, o + l * k, none⟩) (h - l) (cap - l)) := by
  have := o_slice (A := A) (dst := dst) (ty := ty) (pos := pos) (after := after) (gd := gd) hu hk hx hl hh h1 h2
  rwa [cut_lt h3] at this
end
theorem lcs_set_sv' {vs : List Value} {ls : List LineS} {i : Nat} {v : Value} (h : vs.length = ls.length) (hi : i < ls.length) : (lcs vs ls).set (i * 2) v = lcs (vs.set i v) ls := by
  have := lcs_set_sv (v := v) ls[i] h hi rfl
  rwa [set_getElem hi] at this
theorem Fence_f (F : SP) (d : Nat) (s : DevS) :
    Fn Try.prog 44 #[.pointer (some ⟨d, 0, none⟩)] (F * Dev d s) (fun r B => r = .int .i64 (fe s).1 ∧ B = F * Dev d (fe s).2) := by
  refine fn_enterW (args := [.pointer (some ⟨d, 0, none⟩)]) Try.func44 rfl Try.ntmps44 (by simp) ?_; refine tc_dev fun hw bl svs av kvs hsv hkv => ?_
  have hpos := hw.pos
  have htop := hw.top
  refine sr ?_; refine tv (o_assign rfl) ?_; refine nq ?_; refine tc_seq ?_; refine sr ?_; refine tv (o_move rfl) ?_; refine tl_c rfl (o_call bd48 rfl (ready_f _ d bl s.ls.length s av dev_cells hpos htop 0 0 (by omega) (by omega))) ?_; rintro _ _ ⟨rfl, rfl⟩; refine tv (o_assign rfl) ?_; refine nq ?_; refine sr ?_; refine tv (o_move rfl) ?_; refine tv (o_nei rfl rfl) ?_; refine nq ?_; refine tc_cond rfl (fun h => ?_) (fun h => ?_)
  · rw [rdy00] at h
    have ho : s.off = true := by
      cases ho : s.off with
      | true => rfl
      | false => rw [ho] at h; simp at h
    refine sr ?_; refine tv (o_move rfl) ?_; refine tv (o_assign rfl) ?_; refine nq ?_; refine tc_ret ?_; refine q_then_r ?_; exact ⟨.int .i64 5, _, res1 rfl (by show Value.int .i64 (rdy _ _ _ _) = _; rw [rdy00, ho]; rfl), dev_back hw hsv hkv, by unfold fe; rw [if_pos ho], by unfold fe; rw [if_pos ho]⟩
  · rw [rdy00] at h
    have ho : s.off = false := by
      cases ho : s.off with
      | false => rfl
      | true => rw [ho] at h; simp at h
    refine tc_skip ?_; refine q_then_n ?_; refine tc_seq ?_; refine sr ?_; refine tv (o_move rfl) ?_; refine tv (o_nilCheck rfl) ?_; refine tv (o_fieldAddr (o := 0) Try.underlying80 rfl rfl sz77 rfl) ?_; refine tv (o_load p77 rfl devC_d rfl) ?_; refine tv (o_len Try.underlying77 rfl) ?_; refine tv (o_move rfl) ?_; refine nq ?_; refine tc_block ?_; refine tc_loop (fun k ρ B => ∃ (i : Nat) (svs' : List Value), i ≤ s.ls.length ∧ k = s.ls.length - i ∧ svs'.length = s.ls.length ∧ ρ 0 = .pointer (some ⟨d, 0, none⟩) ∧ ρ 15 = .int .i64 s.ls.length ∧ ρ 16 = .int .i64 i ∧ B = F * DevC d bl svs' av kvs { s with ls := mp fenceL i s.ls }) (m := s.ls.length) ?_ ?_
    · exact ⟨0, svs, by omega, rfl, hsv, rfl, rfl, rfl, by rw [mp_zero]⟩
    · intro k ρ B hI
      obtain ⟨i, svs', hi, rfl, hsv', h0, h15, h16, rfl⟩ := hI
      refine tc_env (d := 0) h0 ?_; refine tc_env (d := 15) h15 ?_; refine tc_env (d := 16) h16 ?_; refine sr ?_; refine tv (o_lss rfl rfl) ?_; refine nq ?_; refine tc_seq ?_; refine tc_cond rfl (fun h => ?_) (fun h => ?_)
      · simp only [decide_eq_true_eq] at h
        have hi' : i < s.ls.length := by omega
        have hiG : i < (mp fenceL i s.ls).length := by rw [mp_length]; exact hi'
        have hsG : svs'.length = (mp fenceL i s.ls).length := by rw [mp_length]; exact hsv'
        obtain ⟨R, hf1, hf2⟩ := devC_focus (d := d) (bl := bl) (kvs := kvs) (av := av) (s := { s with ls := mp fenceL i s.ls }) hsG hiG
        refine tc_eq (hf1 F) ?_; refine tc_have (fun _ _ h => sl_have' rfl h) fun ⟨a', c', hv, hn', hl', hrd⟩ => ?_
        have hwl : WfL s.ls[i] := hw.line _ (List.getElem_mem _)
        have hat : (mp fenceL i s.ls)[i] = s.ls[i] := mp_at fenceL hi'
        simp only [hat] at hv hn' hl' hrd ⊢
        have hcell : (lcs svs' (mp fenceL i s.ls))[0 + i * 2 + 0]? = some (.slice a' s.ls[i].st.length c') := by rw [Nat.zero_add, Nat.add_zero, lcs_sv hsG (by omega), hv]
        have hmk : (lcs svs' (mp fenceL i s.ls))[0 + i * 2 + 1]? = some (.int .i64 s.ls[i].mark) := by rw [Nat.zero_add, lcs_mark hsG hiG, hat]
        have hlen : 0 < s.ls[i].st.length := List.length_pos_iff.2 hwl.ne
        have hsm := hwl.small
        have hmlo := hwl.lo
        have hmhi := hwl.hi
        have hglen : (mp fenceL i s.ls).length = s.ls.length := mp_length _ _ _
        refine tc_skip ?_; refine q_then_n ?_; refine tc_seq ?_; refine tc_block ?_; refine sr ?_; refine tv (o_move rfl) ?_; refine tv (o_assign rfl) ?_; refine nq ?_; refine sr ?_; refine tv (o_move rfl) ?_; refine tv (o_nilCheck rfl) ?_; refine tv (o_fieldAddr (o := 0) Try.underlying80 rfl rfl sz77 rfl) ?_; refine tv (o_load p77 rfl (by repeat (first | exact has_here | exact has_pt | apply has_left)) rfl) ?_; refine tv (o_move rfl) ?_; refine tv (o_indexAddrN Try.underlying77 sz86 rfl rfl (by omega)) ?_; refine tv (o_assign rfl) ?_; refine nq ?_; refine sr ?_; refine tv (o_move rfl) ?_; refine tv (o_nilCheck rfl) ?_; refine tv (o_fieldAddr (o := 1) Try.underlying86 rfl rfl sz3 rfl) ?_; refine tv (o_load p3 rfl (by repeat (first | exact has_here | exact has_pt | apply has_left)) hmk) ?_; refine tv (o_geq rfl rfl) ?_; refine nq ?_; refine tc_cond rfl (fun h => ?_) (fun h => ?_)
        · simp only [decide_eq_true_eq] at h
          obtain ⟨m, hm⟩ := Int.eq_ofNat_of_zero_le (show 0 ≤ s.ls[i].mark by omega)
          have hmn : m < s.ls[i].st.length := by omega
          obtain ⟨b, o, rfl, hcs⟩ := hrd.some (by rw [hl']; omega)
          have hfl : fenceL s.ls[i] = ⟨s.ls[i].st.drop m, -1⟩ := by unfold fenceL; rw [if_pos (by omega), hm]; rfl
          have hdl : (stc (s.ls[i].st.drop m)).length = (s.ls[i].st.length - m) * 8 := by rw [stc_length (fun x hx => hwl.eight x (List.mem_of_mem_drop hx)), List.length_drop]
          have hsub := hcs.sub (m * 8) ((s.ls[i].st.length - m) * 8) (show ((stc s.ls[i].st).drop (m * 8)).take ((s.ls[i].st.length - m) * 8) = stc (s.ls[i].st.drop m) by rw [stc_drop hwl.eight m (by omega), List.take_of_length_le (by omega)])
          have hcut := cut_lt (b := b) (o := o) (k := 8) (show m < c' by omega)
          have hoc : (stc (s.ls[i].st.drop m)).all oneC = true := by
            rw [List.all_eq_true]; intro x hx
            simp only [stc, List.mem_flatMap, wds, List.mem_map] at hx
            obtain ⟨_, _, _, _, rfl⟩ := hx
            rfl
          refine tc_seq ?_; refine tc_rega mo ?_
          show TA _ _ _ _ 14 #[ff,ff,ff,ff,ff,ff,ff,ff,ff,ff,ff,ff,ff,ff] _ _
          refine ta_pure (i := 0) (listed' := #[tt,ff,ff,ff,ff,ff,ff,ff,ff,ff,ff,ff,ff,ff]) rfl (by kernel_rfl) (by kernel_rfl) (by kernel_rfl) rfl rfl (o_move rfl) ?_; refine ta_pure (i := 1) (listed' := #[tt,tt,ff,ff,ff,ff,ff,ff,ff,ff,ff,ff,ff,ff]) rfl (by kernel_rfl) (by kernel_rfl) (by kernel_rfl) rfl rfl (o_move rfl) ?_; refine ta_pure (i := 2) (listed' := #[tt,tt,tt,ff,ff,ff,ff,ff,ff,ff,ff,ff,ff,ff]) rfl (by kernel_rfl) (by kernel_rfl) (by kernel_rfl) rfl rfl (o_nilCheck rfl) ?_; refine ta_pure (i := 3) (listed' := #[tt,tt,tt,tt,ff,ff,ff,ff,ff,ff,ff,ff,ff,ff]) rfl (by kernel_rfl) (by kernel_rfl) (by kernel_rfl) rfl rfl (o_fieldAddr (o := 0) Try.underlying86 rfl rfl sz84 rfl) ?_; refine ta_pure (i := 5) (listed' := #[tt,tt,tt,tt,ff,tt,ff,ff,ff,ff,ff,ff,ff,ff]) rfl (by kernel_rfl) (by kernel_rfl) (by kernel_rfl) rfl rfl (o_move rfl) ?_; refine ta_pure (i := 6) (listed' := #[tt,tt,tt,tt,ff,tt,tt,ff,ff,ff,ff,ff,ff,ff]) rfl (by kernel_rfl) (by kernel_rfl) (by kernel_rfl) rfl rfl (o_nilCheck rfl) ?_; refine ta_pure (i := 7) (listed' := #[tt,tt,tt,tt,ff,tt,tt,tt,ff,ff,ff,ff,ff,ff]) rfl (by kernel_rfl) (by kernel_rfl) (by kernel_rfl) rfl rfl (o_fieldAddr (o := 1) Try.underlying86 rfl rfl sz3 rfl) ?_; refine ta_two (i := 4) (j := 8) (by kernel_rfl) ?_ ?_
          · skip
            refine oa_v (i := 4) (listed' := #[tt,tt,tt,tt,tt,tt,tt,tt,ff,ff,ff,ff,ff,ff]) rfl rfl rfl (o_load p84 rfl (by repeat (first | exact has_here | exact has_pt | apply has_left)) hcell) ?_; refine ta_one (i := 8) (by kernel_rfl) ?_; refine oa_v (i := 8) (listed' := #[tt,tt,tt,tt,tt,tt,tt,tt,tt,ff,ff,ff,ff,ff]) rfl rfl rfl (o_load p3 rfl (by repeat (first | exact has_here | exact has_pt | apply has_left)) (hmk.trans (by rw [hm]))) ?_; refine ta_pure (i := 9) (listed' := #[tt,tt,tt,tt,tt,tt,tt,tt,tt,tt,ff,ff,ff,ff]) rfl (by kernel_rfl) (by kernel_rfl) (by kernel_rfl) rfl rfl (o_sliceLt (l := m) (h := s.ls[i].st.length) Try.underlying84 sz83 rfl (bnd_nat (r := m) rfl) bnd_none (by omega) (by omega) (by omega)) ?_; refine ta_one (i := 10) (by kernel_rfl) ?_; refine oa_c (i := 10) (listed' := #[tt,tt,tt,tt,tt,tt,tt,tt,tt,tt,tt,ff,ff,ff]) rfl rfl rfl (o_call bd57 rfl (CloneS_f _ (s.ls[i].st.length - m) (c' - m) (stc (s.ls[i].st.drop m)) ⟨b, o + m * 8, none⟩ (rd_cells hsub) hdl hoc (by omega))) ?_; rintro u40 _ rfl; refine ta_have (fun _ _ h => sl_have h) fun ⟨_, _, hu, _, _, _⟩ => ?_
            have hu1 : oneC u40 = true := by rw [hu]; rfl
            refine ta_pre (fun _ _ h => h.drop2) ?_; refine ta_pure (i := 11) (listed' := #[tt,tt,tt,tt,tt,tt,tt,tt,tt,tt,tt,tt,ff,ff]) rfl (by kernel_rfl) (by kernel_rfl) (by kernel_rfl) rfl rfl (o_nilCheck rfl) ?_; refine ta_pure (i := 12) (listed' := #[tt,tt,tt,tt,tt,tt,tt,tt,tt,tt,tt,tt,tt,ff]) rfl (by kernel_rfl) (by kernel_rfl) (by kernel_rfl) rfl rfl (o_fieldAddr (o := 0) Try.underlying86 rfl rfl sz84 rfl) ?_; refine ta_one (i := 13) (by kernel_rfl) ?_; refine oa_u (i := 13) (listed' := #[tt,tt,tt,tt,tt,tt,tt,tt,tt,tt,tt,tt,tt,tt]) rfl rfl rfl (o_store (l := lcs svs' (mp fenceL i s.ls)) (l' := lcs (svs'.set i u40) (mp fenceL i s.ls)) sz84 rfl rfl hu1 (by rw [lcs_length hsG, hglen]; omega) (by rw [Nat.zero_add, Nat.add_zero]; exact lcs_set_sv' hsG hiG) (by repeat (first | exact upd_here | exact upd_pt | apply upd_left))) ?_; refine ta_done (by kernel_rfl) ?_; refine q_then_n ?_; refine tc_reg ?_; refine tv (o_move rfl) ?_; refine tv (o_nilCheck rfl) ?_; refine tv (o_fieldAddr (o := 1) Try.underlying86 rfl rfl sz3 rfl) ?_; refine tl_u rfl (o_store (l := lcs (svs'.set i u40) (mp fenceL i s.ls)) (l' := lcs (svs'.set i u40) ((mp fenceL i s.ls).set i (fenceL s.ls[i]))) sz3 rfl rfl rfl (by rw [lcs_length (by rw [List.length_set]; exact hsG), hglen]; omega) (by rw [Nat.zero_add]; have := lcs_set_mark (fenceL s.ls[i]) (vs := svs'.set i u40) (by rw [List.length_set]; exact hsG) hiG; rw [hfl] at this ⊢; exact this) (by repeat (first | exact upd_here | exact upd_pt | apply upd_left))) ?_
            refine tl_nil ?_; refine q_block_n (q_then_n ?_); refine tc_reg ?_
            have hfin := hf2 F u40 (fenceL s.ls[i])
            have hdl2 : (s.ls[i].st.drop m).length = s.ls[i].st.length - m := List.length_drop
            rw [show (fenceL s.ls[i]).st = s.ls[i].st.drop m by rw [hfl], hdl2] at hfin
            refine tl_eq hfin ?_
            simp only [mp_set fenceL hi']
            have hsvN : (svs'.set i u40).length = s.ls.length := by rw [List.length_set]; exact hsv'
            refine tv (by first | exact o_addI rfl rfl (by omega) | exact o_add rfl rfl) ?_; refine tv (o_move rfl) ?_; refine nq ?_; exact ⟨_, by omega, i + 1, _, by omega, rfl, hsvN, rfl, rfl, rfl, rfl⟩
          · skip
            refine oa_v (i := 8) (listed' := #[tt,tt,tt,tt,ff,tt,tt,tt,tt,ff,ff,ff,ff,ff]) rfl rfl rfl (o_load p3 rfl (by repeat (first | exact has_here | exact has_pt | apply has_left)) (hmk.trans (by rw [hm]))) ?_; refine ta_one (i := 4) (by kernel_rfl) ?_; refine oa_v (i := 4) (listed' := #[tt,tt,tt,tt,tt,tt,tt,tt,tt,ff,ff,ff,ff,ff]) rfl rfl rfl (o_load p84 rfl (by repeat (first | exact has_here | exact has_pt | apply has_left)) hcell) ?_; refine ta_pure (i := 9) (listed' := #[tt,tt,tt,tt,tt,tt,tt,tt,tt,tt,ff,ff,ff,ff]) rfl (by kernel_rfl) (by kernel_rfl) (by kernel_rfl) rfl rfl (o_sliceLt (l := m) (h := s.ls[i].st.length) Try.underlying84 sz83 rfl (bnd_nat (r := m) rfl) bnd_none (by omega) (by omega) (by omega)) ?_; refine ta_one (i := 10) (by kernel_rfl) ?_; refine oa_c (i := 10) (listed' := #[tt,tt,tt,tt,tt,tt,tt,tt,tt,tt,tt,ff,ff,ff]) rfl rfl rfl (o_call bd57 rfl (CloneS_f _ (s.ls[i].st.length - m) (c' - m) (stc (s.ls[i].st.drop m)) ⟨b, o + m * 8, none⟩ (rd_cells hsub) hdl hoc (by omega))) ?_; rintro u40 _ rfl; refine ta_have (fun _ _ h => sl_have h) fun ⟨_, _, hu, _, _, _⟩ => ?_
            have hu1 : oneC u40 = true := by rw [hu]; rfl
            refine ta_pre (fun _ _ h => h.drop2) ?_; refine ta_pure (i := 11) (listed' := #[tt,tt,tt,tt,tt,tt,tt,tt,tt,tt,tt,tt,ff,ff]) rfl (by kernel_rfl) (by kernel_rfl) (by kernel_rfl) rfl rfl (o_nilCheck rfl) ?_; refine ta_pure (i := 12) (listed' := #[tt,tt,tt,tt,tt,tt,tt,tt,tt,tt,tt,tt,tt,ff]) rfl (by kernel_rfl) (by kernel_rfl) (by kernel_rfl) rfl rfl (o_fieldAddr (o := 0) Try.underlying86 rfl rfl sz84 rfl) ?_; refine ta_one (i := 13) (by kernel_rfl) ?_; refine oa_u (i := 13) (listed' := #[tt,tt,tt,tt,tt,tt,tt,tt,tt,tt,tt,tt,tt,tt]) rfl rfl rfl (o_store (l := lcs svs' (mp fenceL i s.ls)) (l' := lcs (svs'.set i u40) (mp fenceL i s.ls)) sz84 rfl rfl hu1 (by rw [lcs_length hsG, hglen]; omega) (by rw [Nat.zero_add, Nat.add_zero]; exact lcs_set_sv' hsG hiG) (by repeat (first | exact upd_here | exact upd_pt | apply upd_left))) ?_; refine ta_done (by kernel_rfl) ?_; refine q_then_n ?_; refine tc_reg ?_; refine tv (o_move rfl) ?_; refine tv (o_nilCheck rfl) ?_; refine tv (o_fieldAddr (o := 1) Try.underlying86 rfl rfl sz3 rfl) ?_; refine tl_u rfl (o_store (l := lcs (svs'.set i u40) (mp fenceL i s.ls)) (l' := lcs (svs'.set i u40) ((mp fenceL i s.ls).set i (fenceL s.ls[i]))) sz3 rfl rfl rfl (by rw [lcs_length (by rw [List.length_set]; exact hsG), hglen]; omega) (by rw [Nat.zero_add]; have := lcs_set_mark (fenceL s.ls[i]) (vs := svs'.set i u40) (by rw [List.length_set]; exact hsG) hiG; rw [hfl] at this ⊢; exact this) (by repeat (first | exact upd_here | exact upd_pt | apply upd_left))) ?_
            refine tl_nil ?_; refine q_block_n (q_then_n ?_); refine tc_reg ?_
            have hfin := hf2 F u40 (fenceL s.ls[i])
            have hdl2 : (s.ls[i].st.drop m).length = s.ls[i].st.length - m := List.length_drop
            rw [show (fenceL s.ls[i]).st = s.ls[i].st.drop m by rw [hfl], hdl2] at hfin
            refine tl_eq hfin ?_
            simp only [mp_set fenceL hi']
            have hsvN : (svs'.set i u40).length = s.ls.length := by rw [List.length_set]; exact hsv'
            refine tv (by first | exact o_addI rfl rfl (by omega) | exact o_add rfl rfl) ?_; refine tv (o_move rfl) ?_; refine nq ?_; exact ⟨_, by omega, i + 1, _, by omega, rfl, hsvN, rfl, rfl, rfl, rfl⟩
        · try simp only [lv1, lv2, lv3, lv4, lv5, lv6, Bool.not_true, Bool.not_false] at h
          refine tc_skip ?_; refine q_block_n (q_then_n ?_); refine tc_reg ?_
          have hfl : fenceL s.ls[i] = s.ls[i] := by unfold fenceL; rw [if_neg (by omega)]
          have hun := (hf1 F).symm
          simp only [hat] at hun
          refine tl_eq hun ?_
          rw [← mp_same fenceL hi' hfl]
          have hsvN := hsv'
          refine tv (by first | exact o_addI rfl rfl (by omega) | exact o_add rfl rfl) ?_; refine tv (o_move rfl) ?_; refine nq ?_; exact ⟨_, by omega, i + 1, _, by omega, rfl, hsvN, rfl, rfl, rfl, rfl⟩
      · try simp only [lv1, lv2, lv3, lv4, lv5, lv6, Bool.not_true, Bool.not_false] at h
        refine tc_exit ?_; refine q_then_e (q_then_e (q_block_x (q_then_n ?_))); refine sr ?_; refine tv (o_move rfl) ?_
        obtain rfl : i = s.ls.length := by omega
        rw [mp_map]
        refine tl_pre (dev_back (s := fenceS s) (fenceS_wf hw) (by simp [fenceS]; exact hsv') hkv) ?_; refine tl_c rfl (o_call bd58 rfl (done_f F d (fenceS s))) ?_; rintro _ _ ⟨rfl, rfl⟩; refine tv (o_assign rfl) ?_; refine nq ?_; refine tc_ret ?_; exact ⟨.int .i64 (doneE (fenceS s)), _, res1 rfl rfl, fun _ _ h => h, by unfold fe; rw [if_neg (by simp [ho])], by unfold fe; rw [if_neg (by simp [ho])]⟩
end Go.Vl

namespace Go.Vl
open Go Go.Proofs
def reps (zl : List Value) : Nat → List Value
  | 0 => []
  | n + 1 => zl ++ reps zl n
theorem reps_length (zl : List Value) : ∀ n, (reps zl n).length = n * zl.length
  | 0 => by simp [reps]
  | n + 1 => by rw [reps, List.length_append, reps_length zl n, Nat.add_mul]; omega
theorem reps_at (zl : List Value) (hk : 0 < zl.length) : ∀ (n j : Nat), j < n * zl.length → (reps zl n)[j]? = zl[j % zl.length]?
  | 0, j, h => by omega
  | n + 1, j, h => by
    rw [reps]
    rcases Nat.lt_or_ge j zl.length with h1 | h1
    · rw [List.getElem?_append_left h1, Nat.mod_eq_of_lt h1]
    · rw [List.getElem?_append_right h1, reps_at zl hk n (j - zl.length) (by rw [Nat.add_mul] at h; omega), Nat.mod_eq_sub_mod h1]
section
variable {P : Program} {n : Nat} {ρ : Env} {A : SP} {dst : Option Tmp} {ty : TypeId} {pos : String} {after : Array Edge} {gd : Option (Nat × Bool)}
theorem o_makeSliceK {t e : TypeId} {x y : Operand} {len cap k : Nat} {bytes : Nat} {k1 k2 : IntKind} {zl : List Value} (hu : P.underlying t = some (.slice e)) (hk : szE P e = some k) (hb : bytesE P e = some bytes) (hz : zeroE P e = some (.agg zl.toArray)) (hzl : zl.length = k) (hk0 : 0 < k)
    (hx : ev n ρ x = .int k1 len) (hy : ev n ρ y = .int k2 cap) (h1 : len ≤ cap) (h2 : cap * bytes ≤ 140737488355328) (h3 : cap ≤ 140737488355328) (h4 : 0 < cap) :
    OpX P n ρ A ⟨dst, .makeSlice t x y, ty, pos, after, gd⟩ (NewS A (reps zl cap) e len cap) := fun g w hs => by
  refine ⟨_, w.alloc (cl (reps zl cap) e), _, ?_, hs.alloc _, w.heap.size, rfl, rfl⟩
  have w1 : IntKind.i64.wrap (len : Int) = len := by rw [IntWalk.i64_in _ (by omega)]
  have w2 : IntKind.i64.wrap (cap : Int) = cap := by rw [IntWalk.i64_in _ (by omega)]
  obtain ⟨i, hi, hib⟩ := run_bytes (w := w) hb
  have p47 : (2 : Nat) ^ 47 = 140737488355328 := by decide
  have p48 : (2 : Int) ^ 48 = 281474976710656 := by decide
  simp only [execOp, hx, hy]
  rw [run_bind (w' := w.alloc (cl (reps zl cap) e)) (a := .slice (some ⟨w.heap.size, 0, none⟩) len cap)]
  · rfl
  unfold Instr.makeSlice
  rw [run_bind (run_und hu)]
  simp only []
  rw [run_bind (w' := w) (a := (len : Int)) (by rfl), run_bind (w' := w) (a := (cap : Int)) (by rfl), run_bind hi]
  simp only [w1, w2, hib, p48]
  have hcb : (bytes : Int) * (cap : Int) ≤ 140737488355328 := by
    have : (bytes : Int) * (cap : Int) = ((cap * bytes : Nat) : Int) := by rw [Nat.mul_comm]; simp
    rw [this]; omega
  rw [if_neg (by simp; omega)]
  have ask : (askRoom (((cap : Nat) : Int).toNat * bytes)).run P w = .ok () w := by
    unfold askRoom roomBytes
    rw [p47, if_neg (by simp; omega)]; rfl
  rw [run_bind ask, run_bind (run_size hk)]
  have h0 : cap * k ≠ 0 := Nat.mul_ne_zero (by omega) (by omega)
  simp only [Int.toNat_natCast, h0, if_false]
  rw [run_bind (run_zeroV hz)]
  have hrow : ((Array.range (cap * k)).map fun x => (Value.agg zl.toArray).cells[x % (Value.agg zl.toArray).cells.size]!) = (reps zl cap).toArray := by
    simp only [Value.cells]
    apply Array.ext'
    rw [Array.toList_map]
    apply List.ext_getElem?
    intro j
    simp only [Array.toList_range, List.getElem?_map, List.size_toArray]
    subst hzl
    rcases Nat.lt_or_ge j (cap * zl.length) with h | h
    · rw [reps_at zl hk0 cap j h]
      have hm : j % zl.length < zl.length := Nat.mod_lt _ hk0
      simp [h, hm]
    · rw [List.getElem?_eq_none (by simpa using h), List.getElem?_eq_none (by rw [reps_length]; exact h)]; rfl
  show (do let a ← newRow e ((Array.range (cap * k)).map fun x => (Value.agg zl.toArray).cells[x % (Value.agg zl.toArray).cells.size]!); pure (Value.slice (some a) ((len : Nat) : Int).toNat ((cap : Nat) : Int).toNat) : Sem Value).run P w = _
  rw [hrow, run_bind run_newRow]
  simp [pure, Int.toNat_natCast]
end
/-- May a device have that size? -/
def fitsB (p : Int) : Bool := decide (64 ≤ p ∧ p ≤ 4194304 ∧ p % 64 = 0)
def blank (n : Nat) : DevS := ⟨List.replicate n ⟨[], 0⟩, 0, [], 0, false⟩
def zline : LineS := ⟨[List.replicate 8 0], -1⟩
/-- A device of bytes 0. -/
def newS (n : Nat) : DevS := ⟨List.replicate n zline, 0, [], 0, false⟩
theorem zline_wf : WfL zline := ⟨by simp [zline], by simp [zline, Eight], by simp [zline], by simp [zline], by simp [zline], by simp [zline]⟩
theorem newS_wf {n : Nat} (h : 0 < n) (h2 : n ≤ 65536) : WfD (newS n) := ⟨by simpa [newS] using h, by simpa [newS] using h2, fun l hl => by
  simp only [newS, List.mem_replicate] at hl; rw [hl.2]; exact zline_wf, by simp [newS], by simp [newS], by simp [newS]⟩
theorem lcs_blank : ∀ n, lcs (List.replicate n (.slice none 0 0)) (List.replicate n ⟨[], 0⟩) = reps [.slice none 0 0, .int .i64 0] n
  | 0 => rfl
  | n + 1 => by simp only [List.replicate_succ, lcs, reps, List.cons_append, List.nil_append]; rw [lcs_blank n]
theorem linesR_blank : ∀ (n : Nat) {R : SP} {g : Gh} {w : World}, sat g w R → sat g w (R * LinesR (List.replicate n (.slice none 0 0)) (List.replicate n ⟨[], 0⟩))
  | 0, R, g, w, h => by show sat g w (R * emp); rw [star_emp]; exact h
  | n + 1, R, g, w, h => by
    simp only [List.replicate_succ, LinesR]
    rw [← star_assoc]
    exact sl_nil (k := 8) (linesR_blank n h)
theorem blank_dev {F : SP} {d bl n : Nat} {g : Gh} {w : World} (hs : sat g w (F * pt bl (cl (reps [.slice none 0 0, .int .i64 0] n) 86) * pt d (cl [.slice (some ⟨bl, 0, none⟩) n n, .int .i64 0, .slice none 0 0, .int .i64 0, .bool false] 80))) :
    sat g w (F * DevC d bl (List.replicate n (.slice none 0 0)) (.slice none 0 0) [] (blank n)) := by
  rw [devC_eq]
  unfold ArmsR
  have h1 := sl_nil (k := 2) (linesR_blank n hs)
  rw [← lcs_blank] at h1
  refine h1.perm ?_
  simp only [blank, dcs, List.length_replicate, acs, KeepsR, List.length_nil, star_emp]
  ac_rfl
theorem mp_blank (n : Nat) : mp (fun _ => zline) n (List.replicate n ⟨[], 0⟩) = (newS n).ls := by
  have := mp_map (fun _ => zline) (List.replicate n ⟨[], 0⟩)
  rw [List.length_replicate] at this
  rw [this]; simp [newS]
theorem fits_f (A : SP) (p : Int) (hp : -9223372036854775808 ≤ p ∧ p ≤ 9223372036854775807) :
    Fn Try.prog 41 #[.int .i64 p] (A) (fun r B => r = .bool (fitsB p) ∧ A = B) := by
  refine fn_enter (args := [.int .i64 p]) Try.func41 rfl Try.ntmps41 (by simp) ?_; refine sr ?_; refine tv (o_assign rfl) ?_; refine nq ?_; refine sr ?_; refine tv (o_move rfl) ?_; refine tv (o_geq rfl rfl) ?_; refine tv (o_move rfl) ?_; refine tl_bool (d := 5) rfl (fun h => ?_) (fun h => ?_)
  · try simp only [lv1, lv2, lv3, lv4, lv5, lv6, Bool.not_true, Bool.not_false] at h
    refine tv (o_move rfl) ?_; refine tv (o_leq rfl rfl) ?_; refine tv (by first | exact o_pick_t rfl rfl | exact o_pick_f rfl rfl | exact o_pick rfl rfl) ?_; refine tv (o_move rfl) ?_; refine tl_bool (d := 9) rfl (fun h => ?_) (fun h => ?_)
    · try simp only [lv1, lv2, lv3, lv4, lv5, lv6, Bool.not_true, Bool.not_false] at h
      refine tv (o_move rfl) ?_; refine tv (o_remI rfl rfl (by omega)) ?_; refine tv (o_eqi rfl rfl) ?_; refine tv (by first | exact o_pick_t rfl rfl | exact o_pick_f rfl rfl | exact o_pick rfl rfl) ?_; refine tv (o_assign rfl) ?_; refine nq ?_; refine tc_ret ?_; exact ⟨.bool (decide (p % 64 = 0)), res1 rfl rfl, by unfold fitsB; congr 1; rw [decide_eq_decide]; omega, rfl⟩
    · try simp only [lv1, lv2, lv3, lv4, lv5, lv6, Bool.not_true, Bool.not_false] at h
      refine tk ?_; refine tk ?_; refine tk ?_; refine tv (by first | exact o_pick_t rfl rfl | exact o_pick_f rfl rfl | exact o_pick rfl rfl) ?_; refine tv (o_assign rfl) ?_; refine nq ?_; refine tc_ret ?_; exact ⟨.bool false, res1 rfl rfl, by unfold fitsB; rw [decide_eq_false (by omega)], rfl⟩
  · try simp only [lv1, lv2, lv3, lv4, lv5, lv6, Bool.not_true, Bool.not_false] at h
    refine tk ?_; refine tk ?_; refine tv (by first | exact o_pick_t rfl rfl | exact o_pick_f rfl rfl | exact o_pick rfl rfl) ?_; refine tv (o_move rfl) ?_; refine tk ?_; refine tk ?_; refine tk ?_; refine tv (by first | exact o_pick_t rfl rfl | exact o_pick_f rfl rfl | exact o_pick rfl rfl) ?_; refine tv (o_assign rfl) ?_; refine nq ?_; refine tc_ret ?_; exact ⟨.bool false, res1 rfl rfl, by unfold fitsB; rw [decide_eq_false (by omega)], rfl⟩
theorem New_f (F : SP) (n : Nat) (hn : 0 < n) (hn2 : n ≤ 65536) :
    Fn Try.prog 21 #[.int .i64 ((n * 64 : Nat) : Int)] (F) (fun r B => ∃ d, r = .tuple #[.pointer (some ⟨d, 0, none⟩), .int .i64 0] ∧ B = F * Dev d (newS n)) := by
  refine fn_enterW (args := [.int .i64 ((n * 64 : Nat) : Int)]) Try.func21 rfl Try.ntmps21 (by simp) ?_
  have hfit : fitsB ((n * 64 : Nat) : Int) = true := by unfold fitsB; simp; omega
  refine sr ?_; refine tv (o_assign rfl) ?_; refine tv (o_assign rfl) ?_; refine nq ?_; refine tc_seq ?_; refine sr ?_; refine tv (o_move rfl) ?_; refine tl_c rfl (o_call bd41 rfl (fits_f F _ (by omega))) ?_; rintro _ _ ⟨rfl, rfl⟩; refine tv (o_not rfl) ?_; refine nq ?_; refine tc_cond rfl (fun h => ?_) (fun h => ?_)
  · exfalso; rw [hfit] at h; exact absurd h (by decide)
  · try simp only [lv1, lv2, lv3, lv4, lv5, lv6, Bool.not_true, Bool.not_false] at h
    refine tc_skip ?_; refine q_then_n ?_; refine sr ?_; refine tv (o_move rfl) ?_; refine tv (o_quoN (a := n * 64) (b := 64) rfl rfl (by omega)) ?_; refine tl_env (d := 10) (v := .int .i64 (n : Nat)) (by show Value.int .i64 ((n * 64 / 64 : Nat) : Int) = _; rw [Nat.mul_div_cancel _ (by decide)]) ?_; refine tl_x rfl (o_makeSliceK (len := n) (cap := n) Try.underlying77 sz86 by86 z86 rfl (by decide) rfl rfl (by omega) (by omega) (by omega) hn) ?_; rintro _ _ ⟨b11, rfl, rfl⟩; refine tv (o_buildS Try.underlying80 z80 (pl80 Try.underlying80) rfl rfl) ?_; refine tl_x rfl (o_box rfl rfl) ?_; rintro _ _ ⟨b13, rfl, rfl⟩; refine tl_pre (fun _ _ h => blank_dev h) ?_; refine tv (o_assign rfl) ?_; refine nq ?_; refine tc_seq ?_; refine sr ?_; refine tv (o_move rfl) ?_; refine tv (o_nilCheck rfl) ?_; refine tv (o_fieldAddr (o := 0) Try.underlying80 rfl rfl sz77 rfl) ?_; refine tv (o_load p77 rfl devC_d rfl) ?_; refine tv (o_len Try.underlying77 rfl) ?_; refine tv (o_move rfl) ?_; refine nq ?_; refine tc_block ?_; refine tc_loop (fun k ρ B => ∃ (i : Nat) (svs' : List Value), i ≤ n ∧ k = n - i ∧ svs'.length = n ∧ ρ 4 = .pointer (some ⟨b13, 0, none⟩) ∧ ρ 18 = .int .i64 n ∧ ρ 19 = .int .i64 i ∧ B = F * DevC b13 b11 svs' (.slice none 0 0) [] { blank n with ls := mp (fun _ => zline) i (blank n).ls }) (m := n) ?_ ?_
    · exact ⟨0, List.replicate n (.slice none 0 0), by omega, rfl, by simp, rfl, by show Value.int .i64 ((List.replicate n (⟨[], 0⟩ : LineS)).length : Int) = _; rw [List.length_replicate], rfl, by rw [mp_zero]⟩
    · intro k ρ B hI
      obtain ⟨i, svs', hi, rfl, hsv', h4, h18, h19, rfl⟩ := hI
      refine tc_env (d := 4) h4 ?_; refine tc_env (d := 18) h18 ?_; refine tc_env (d := 19) h19 ?_; refine sr ?_; refine tv (o_lss rfl rfl) ?_; refine nq ?_; refine tc_seq ?_; refine tc_cond rfl (fun h => ?_) (fun h => ?_)
      · simp only [decide_eq_true_eq] at h
        have hi' : i < (blank n).ls.length := by simp [blank]; omega
        have hbl : (blank n).ls.length = n := by simp [blank]
        have hglen : (mp (fun _ => zline) i (blank n).ls).length = n := by rw [mp_length, hbl]
        have hiG : i < (mp (fun _ => zline) i (blank n).ls).length := by omega
        have hsG : svs'.length = (mp (fun _ => zline) i (blank n).ls).length := by omega
        obtain ⟨R, hf1, hf2⟩ := devC_focus (d := b13) (bl := b11) (kvs := []) (av := .slice none 0 0) (s := { blank n with ls := mp (fun _ => zline) i (blank n).ls }) hsG hiG
        refine tc_eq (hf1 F) ?_
        simp only [hglen]
        refine tc_skip ?_; refine q_then_n ?_; refine tc_seq ?_; refine tc_block ?_; refine sr ?_; refine tv (o_move rfl) ?_; refine tv (o_assign rfl) ?_; refine nq ?_; refine tc_reg ?_; refine tv (o_move rfl) ?_; refine tv (o_nilCheck rfl) ?_; refine tv (o_fieldAddr (o := 0) Try.underlying80 rfl rfl sz77 rfl) ?_; refine tv (o_load p77 rfl (by repeat (first | exact has_here | exact has_pt | apply has_left)) rfl) ?_; refine tv (o_move rfl) ?_; refine tv (o_buildA (vs := []) Try.underlying83 sz81 z83 rfl rfl rfl (Nat.zero_le _) rfl) ?_; refine tl_x rfl (o_buildSliceK (l := wds (List.replicate 8 0)) Try.underlying84 sz83 z83 rfl rfl (by decide)) ?_; rintro _ _ ⟨b28, rfl, rfl⟩; refine tv (o_buildS (l := [.slice (some ⟨b28, 0, none⟩) 1 1, .int .i64 (-1)]) Try.underlying86 z86 (pl86 Try.underlying86) rfl rfl) ?_; refine tv (o_indexAddrN (j := i) Try.underlying77 sz86 rfl rfl (by omega)) ?_; refine tl_u rfl (o_storeN (l := lcs svs' (mp (fun _ => zline) i (blank n).ls)) (l' := lcs (svs'.set i (.slice (some ⟨b28, 0, none⟩) 1 1)) ((mp (fun _ => zline) i (blank n).ls).set i zline)) sz86 rfl rfl rfl rfl (by rw [lcs_length hsG, hglen]; omega) (by rw [Nat.zero_add]; exact lcs_set (l := zline) hsG hiG) (by repeat (first | exact upd_here | exact upd_pt | apply upd_left))) ?_
        refine tl_pre (fun _ _ h => h.newline (by rfl)) ?_
        have hfin := hf2 F (.slice (some ⟨b28, 0, none⟩) 1 1) zline
        simp only [hglen] at hfin
        refine tl_eq hfin ?_
        simp only [mp_set (fun _ => zline) hi']
        refine tl_nil ?_; refine q_block_n (q_then_n ?_); refine tc_reg ?_; refine tv (by first | exact o_addI rfl rfl (by omega) | exact o_add rfl rfl) ?_; refine tv (o_move rfl) ?_; refine nq ?_; exact ⟨_, by omega, i + 1, _, by omega, rfl, by rw [List.length_set]; exact hsv', rfl, rfl, rfl, rfl⟩
      · try simp only [lv1, lv2, lv3, lv4, lv5, lv6, Bool.not_true, Bool.not_false] at h
        refine tc_exit ?_; refine q_then_e (q_then_e (q_block_x (q_then_n ?_))); refine sr ?_; refine tv (o_move rfl) ?_; refine tv (o_assign rfl) ?_; refine tv (o_assign rfl) ?_; refine nq ?_; refine tc_ret ?_
        obtain rfl : i = n := by omega
        exact ⟨.tuple #[.pointer (some ⟨b13, 0, none⟩), .int .i64 0], _, res2 rfl rfl rfl, fun g w h => dev_back (s := newS i) (newS_wf hn hn2) (by simp [newS]; exact hsv') rfl g w (h.perm (by show F * DevC b13 b11 svs' _ [] { blank i with ls := mp (fun _ => zline) i (List.replicate i ⟨[], 0⟩) } = _; rw [mp_blank]; rfl)), _, rfl, rfl⟩
end Go.Vl

namespace Go.Vl
open Go Go.Proofs
theorem within_neg {a n : Int} (hn : 0 < n) (h : a.tmod n < 0) : a.tmod n + n = a % n := by
  have e := Int.tmod_eq_emod (a := a) (b := n)
  have h1 := Int.emod_nonneg a (show n ≠ 0 by omega)
  split at e <;> omega
theorem within_pos {a n : Int} (hn : 0 < n) (h : ¬ a.tmod n < 0) : a.tmod n = a % n := by
  have e := Int.tmod_eq_emod (a := a) (b := n)
  have h1 := Int.emod_lt_of_pos a hn
  split at e <;> omega
theorem tmod_lt' {a n : Int} (hn : 0 < n) : -n < a.tmod n ∧ a.tmod n < n := by
  have e := Int.tmod_eq_emod (a := a) (b := n)
  have h1 := Int.emod_nonneg a (show n ≠ 0 by omega)
  have h2 := Int.emod_lt_of_pos a hn
  split at e
  · omega
  · rename_i hx
    have : a % n ≠ 0 := fun h0 => hx (.inr (Int.dvd_of_emod_eq_zero h0))
    omega
end Go.Vl

namespace Go.Vl
open Go Go.Proofs
section
variable {F : SP} {d : Nat} {s : DevS}
theorem OpsD_f : Fn Try.prog 13 #[.pointer (some ⟨d, 0, none⟩)] (F * Dev d s) (fun r B => r = .int .i64 s.ops ∧ F * Dev d s = B) :=
  fn_devR0 fun _ A bl svs av hR => Ops_f A d bl s.ls.length s av hR.d hR.wf.pos hR.wf.top
theorem OffD_f : Fn Try.prog 47 #[.pointer (some ⟨d, 0, none⟩)] (F * Dev d s) (fun r B => r = .bool s.off ∧ F * Dev d s = B) :=
  fn_devR0 fun _ A bl svs av hR => Off_f A d bl s.ls.length s av hR.d hR.wf.pos hR.wf.top
theorem ImageD_f : Fn Try.prog 15 #[.pointer (some ⟨d, 0, none⟩)] (F * Dev d s) (fun r B => ∃ X, B = F * Dev d s * X ∧ X = Sl 1 r (s.ls.length * 64) (bys (imgS s))) :=
  fn_devR fun _ A bl svs av hR => Image_f A d bl svs av s hR
theorem LoadD_f {p m : Nat} {W : List Nat} (hoff : s.off = false) (hpm : p + m ≤ s.ls.length * 64) (hW : W = ((imgS s).drop p).take m) :
    Fn Try.prog 28 #[.pointer (some ⟨d, 0, none⟩), .int .i64 (p : Nat), .int .i64 (m : Nat)] (F * Dev d s) (fun r B => ∃ X, B = F * Dev d s * X ∧ ∃ u, r = .tuple #[u, .int .i64 0] ∧ X = Sl 1 u m (bys W)) :=
  fn_devR fun _ A bl svs av hR => Load_f A d bl svs av s p m W hR hoff hpm hW
end
def aw1 : DevS := (st8 0 257 (newS 2)).2
def aw2 : DevS := (fl1 3 aw1).2
def aw3 : DevS := (st8 8 5 aw2).2
def aw4 : DevS := (fe aw3).2
def aw5 : DevS := goesS [] aw4
def aw6 : DevS := { aw5 with off := false }
def awB : List Nat := [1, 1, 0, 0, 0, 0, 0, 0, 0, 0, 0, 0, 0, 0, 0, 0]
end Go.Vl

namespace Go.Vl
open Go Go.Proofs
/-- A device and its book. -/
structure PlS where
  s : DevS
  seen : List Nat
  held : List (List Nat)
  last : List Nat
  sure : List Bool
  marks : List Int
def wi (p : Int) (n : Nat) : Nat := (p % (n : Int)).toNat
def lastF (marks : List Int) (seen : List Nat) : Nat → Nat → Nat := fun i x => if marks.getD (i / 8) 0 = 1 then seen.getD i 0 else x
def sureF (marks : List Int) : Nat → Bool → Bool := fun i x => if marks.getD (i / 8) 0 = 1 then true else x
/-- One step without a loss of power, told. -/
def stepP (k p : Int) (v : Nat) (P : PlS) : Bool × PlS :=
  if k = 2 ∨ k = 3 then
    (decide ((st8 ((8 * wi p P.seen.length : Nat) : Int) v P.s).1 = 0), ⟨(st8 ((8 * wi p P.seen.length : Nat) : Int) v P.s).2, P.seen.set (wi p P.seen.length) v, P.held.set (wi p P.seen.length) (P.held.getD (wi p P.seen.length) [] ++ [v]), P.last,
      P.sure.set (wi p P.seen.length) false, if P.marks.getD (wi p P.seen.length / 8) 0 = 1 then P.marks.set (wi p P.seen.length / 8) 2 else P.marks⟩)
  else if k = 4 then (decide ((fl1 ((8 * wi p P.seen.length : Nat) : Int) P.s).1 = 0), { P with s := (fl1 ((8 * wi p P.seen.length : Nat) : Int) P.s).2, marks := P.marks.set (wi p P.seen.length / 8) 1 })
  else if k = 5 then (decide ((fe P.s).1 = 0), { P with s := (fe P.s).2, last := pm (lastF P.marks P.seen) P.seen.length P.last, sure := pm (sureF P.marks) P.seen.length P.sure, marks := pm (fun _ _ => 0) P.marks.length P.marks })
  else (true, P)
/-- The book's own cells. -/
def pcs (d : Nat) (sv hv lv uv mv : Value) : List Value := [.pointer (some ⟨d, 0, none⟩), sv, hv, lv, uv, mv]
structure WfP (r : Nat) (P : PlS) : Prop where
  pos : 0 < P.marks.length
  top : P.marks.length ≤ 4
  ls : P.s.ls.length = P.marks.length
  seen : P.seen.length = 8 * P.marks.length
  held : P.held.length = 8 * P.marks.length
  last : P.last.length = 8 * P.marks.length
  sure : P.sure.length = 8 * P.marks.length
  room : Room r P.s
  hroom : ∀ l ∈ P.held, l.length + r ≤ 2199023255552
end Go.Vl

namespace Go.Vl
open Go Go.Proofs
/-- No loss of power is planned, and none was. -/
structure Live (s : DevS) : Prop where
  off : s.off = false
  arms : s.arms = []
theorem onLine_fields (f : LineS → LineS) (i : Nat) (s : DevS) : (onLine f i s).ops = s.ops ∧ (onLine f i s).arms = s.arms ∧ (onLine f i s).cnt = s.cnt ∧ (onLine f i s).off = s.off ∧ (onLine f i s).ls.length = s.ls.length := by
  unfold onLine; split <;> simp
theorem rdy_ok {n : Nat} {p m : Int} (hp : 0 ≤ p) (hm : 0 ≤ m) (h : p + m ≤ n * 64) : rdy n false p m = 0 := by
  unfold rdy; rw [if_neg (by simp), if_neg (by omega)]
theorem onLine_room {f : LineS → LineS} {i r : Nat} {s : DevS} (h : Room (r + 1) s) (hf : ∀ l, (f l).st.length ≤ l.st.length + 1) : Room r (onLine f i s) := by
  unfold onLine
  cases e : s.ls[i]? with
  | none => exact fun l hl => by have := h l hl; omega
  | some l =>
    intro x hx
    rcases List.mem_or_eq_of_mem_set hx with h1 | rfl
    · have := h x h1; omega
    · have := h l (List.mem_of_getElem? e); have := hf l; omega
/-- A step's cells. -/
structure StepC where
  k : Int
  q : Int
  nv : Value
  v : Nat
  dv : Value
  kv : Value
  av : Value
def StepC.cells (t : StepC) : List Value := [.int .i64 t.k, .int .i64 t.q, t.nv, .int .u64 (t.v : Nat), t.dv, t.kv, t.av]
def scs (l : List StepC) : List Value := l.flatMap StepC.cells
def playL (l : List StepC) (P : PlS) : PlS := l.foldl (fun P t => (stepP t.k t.q t.v P).2) P
def begS (n : Nat) : PlS := ⟨newS n, List.replicate (8 * n) 0, List.replicate (8 * n) [0], List.replicate (8 * n) 0, List.replicate (8 * n) true, List.replicate n 0⟩
end Go.Vl

namespace Go.Vl
open Go Go.Proofs
/-- Lists of bytes, to be read. -/
def RdRows (A : SP) (a : Option Addr) (ls : List (List Nat)) : Prop := ∃ vs : List Value, vs.length = ls.length ∧ Rd A a vs ∧ ∀ i (h : i < ls.length), ∃ b c, vs[i]? = some (.slice b ls[i].length c) ∧ Rd A b (bys ls[i])
theorem RdRows.left {A X : SP} {a : Option Addr} {ls : List (List Nat)} (h : RdRows A a ls) : RdRows (A * X) a ls := by
  obtain ⟨vs, h1, h2, h3⟩ := h
  exact ⟨vs, h1, h2.left, fun i hi => by obtain ⟨b, c, e, hr⟩ := h3 i hi; exact ⟨b, c, e, hr.left⟩⟩
theorem RdRows.pre {A B : SP} {a : Option Addr} {ls : List (List Nat)} (h : RdRows A a ls) (k : ∀ g w, sat g w B → sat g w A) : RdRows B a ls := by
  obtain ⟨vs, h1, h2, h3⟩ := h
  exact ⟨vs, h1, h2.pre k, fun i hi => by obtain ⟨b, c, e, hr⟩ := h3 i hi; exact ⟨b, c, e, hr.pre k⟩⟩
theorem parts_get : ∀ {vs : List Value} {ls : List (List Nat)} {i : Nat} (h : vs.length = ls.length) (hi : i < ls.length),
    ∃ R, Parts vs ls = R * Sl 1 (vs[i]'(by omega)) ls[i].length (bys ls[i]) ∧ ∀ v l, Parts (vs.set i v) (ls.set i l) = R * Sl 1 v l.length (bys l)
  | [], [], _, _, hi => by simp at hi
  | v :: vs, l :: ls, 0, h, _ => ⟨Parts vs ls, rfl, fun _ _ => rfl⟩
  | v :: vs, l :: ls, i + 1, h, hi => by
    obtain ⟨R, h1, h2⟩ := parts_get (vs := vs) (ls := ls) (i := i) (by simpa using h) (by simpa using hi)
    refine ⟨R * Sl 1 v l.length (bys l), ?_, fun u m => ?_⟩
    · simp only [Parts, List.getElem_cons_succ]; rw [h1, star_swap]
    · simp only [List.set_cons_succ, Parts]; rw [h2, star_swap]
theorem Foc.parts {A A' : SP} {hvs : List Value} {held : List (List Nat)} (h : Foc A (Parts hvs held) (Parts hvs held) A') (hl : hvs.length = held.length) {g : Gh} {w : World} (hs : sat g w A) :
    ∀ i (hi : i < held.length), ∃ a c, hvs[i]? = some (.slice a held[i].length c) ∧ held[i].length ≤ c ∧ Rd (Parts hvs held) a (bys held[i]) := fun i hi => by
  obtain ⟨R, rfl, _⟩ := h
  obtain ⟨S, h1, _⟩ := parts_get hl hi
  have hs2 := hs.right
  obtain ⟨a, c, e, hle, _, hr⟩ := sl_have' h1 hs2
  exact ⟨a, c, by rw [List.getElem?_eq_getElem (by omega), e], hle, hr⟩
end Go.Vl

namespace Go.Vl
open Go Go.Proofs
theorem slb_snoc {A : SP} {u : Value} {l : List Nat} {x : Nat} : A * Sl 1 u (l.length + 1) (bys l ++ [.int .u8 (x : Int)]) = A * Sl 1 u (l ++ [x]).length (bys (l ++ [x])) := by
  rw [bys_append, List.length_append]; rfl
theorem CopyBytes_f (A : SP) (a : Option Addr) (c : Nat) (xs : List Nat) (hr : Rd A a (bys xs)) (hl : xs.length ≤ 140737488351232) :
    Fn Try.prog 19 #[.slice a xs.length c] (A) (fun r B => B = A * Sl 1 r xs.length (bys xs)) := by
  refine fn_enter (args := [.slice a xs.length c]) Try.func19 rfl Try.ntmps19 (by simp) ?_; refine sr ?_; refine tv (o_assign rfl) ?_; refine nq ?_; refine sr ?_; refine tv (o_move rfl) ?_; refine tv (o_len Try.underlying22 rfl) ?_; refine tl_x rfl (o_makeSlice (len := 0) (cap := xs.length) Try.underlying22 sz5 by5 z5 rfl rfl rfl (by omega) (by omega) (by omega)) ?_; rintro _ _ ⟨b7, rfl, rfl⟩; refine tl_pre (fun _ _ h => sl_new (k := 1) (n := 0) (cap := xs.length) (xs := []) h (by omega) (by simp) (by simp)) ?_; refine tv (o_assign rfl) ?_; refine nq ?_; refine tc_seq ?_; refine sr ?_; refine tv (o_assign rfl) ?_; refine nq ?_; refine tc_block ?_; refine tc_loop (fun kk ρ BB => ∃ (i : Nat) (v : Value), (i ≤ xs.length) ∧ kk = xs.length - i ∧ ρ 0 = .slice a xs.length c ∧ ρ 3 = v ∧ ρ 4 = .int .i64 (i : Nat) ∧ BB = A * Sl 1 v (xs.take i).length (bys (xs.take i))) (m := xs.length - (0)) ?_ ?_
  · exact ⟨0, _, by omega, rfl, rfl, rfl, rfl, rfl⟩
  · intro k ρ B hI
    obtain ⟨i, v, hp0, rfl, hs0, hs3, hs4, rfl⟩ := hI
    refine tc_env (d := 0) hs0 ?_; refine tc_env (d := 3) hs3 ?_; refine tc_env (d := 4) hs4 ?_; refine tc_seq ?_; refine sr ?_; refine tv (o_move rfl) ?_; refine tv (o_move rfl) ?_; refine tv (o_len Try.underlying22 rfl) ?_; refine tv (o_lss rfl rfl) ?_; refine nq ?_; refine tc_cond rfl (fun h => ?_) (fun h => ?_)
    · simp only [decide_eq_true_eq] at h
      have hi' : i < xs.length := by omega
      obtain ⟨b, o, rfl, hc⟩ := hr.some (by rw [bys_length]; omega)
      have g1 := hc i _ (bys_at hi')
      refine tc_skip ?_; refine q_then_n ?_; refine tc_seq ?_; refine tc_block ?_; refine tc_reg ?_; refine tv (o_move rfl) ?_; refine tv (o_move rfl) ?_; refine tv (o_move rfl) ?_; refine tv (o_indexAddrN1 (j := i) Try.underlying22 sz5 rfl rfl (by omega)) ?_; refine tv (o_loadC p5 rfl g1.left) ?_; refine tl_x rfl (o_buildSlice1 (v := .int .u8 (xs[i] : Nat)) Try.underlying22 sz5 z5 rfl rfl) ?_; rintro _ _ ⟨b19, rfl, rfl⟩; refine tl_x rfl (o_append1 Try.underlying22 Try.underlying22 sz5 by5 z5 rfl (by decide) (by decide) rfl rfl rfl rfl rfl (by rw [List.length_take]; omega)) ?_; rintro u20 _ rfl; refine tv (o_assign rfl) ?_; refine tl_nil ?_; refine q_block_n (q_then_n ?_); refine tc_reg ?_; refine tv (o_move rfl) ?_; refine tv (by first | exact o_addI rfl rfl (by omega) | exact o_add rfl rfl) ?_; refine tv (o_assign rfl) ?_; refine nq ?_; exact ⟨_, by omega, i + 1, u20, by omega, rfl, rfl, rfl, rfl, by rw [List.take_succ_eq_append_getElem hi', ← slb_snoc]⟩
    · try simp only [lv1, lv2, lv3, lv4, lv5, lv6, Bool.not_true, Bool.not_false] at h
      refine tc_exit ?_; refine q_then_e (q_then_e (q_block_x (q_then_n ?_))); refine sr ?_; refine tv (o_move rfl) ?_; refine tv (o_assign rfl) ?_; refine nq ?_; refine tc_ret ?_
      obtain rfl : i = xs.length := by omega
      rw [List.take_length]
      exact ⟨v, res1 rfl rfl, rfl⟩
end Go.Vl

namespace Go.Vl
open Go Go.Proofs
/-- A line of bytes. -/
def wordF (xs : List Nat) (i k : Nat) : Nat := nm ((xs.drop (i * 64 + k * 8)).take 8)
def lineF (xs : List Nat) (i : Nat) : LineS := ⟨[(List.replicate 8 0).mapIdx fun k _ => wordF xs i k], -1⟩
/-- A device of bytes. -/
def fromS (n : Nat) (xs : List Nat) : DevS := { newS n with ls := (newS n).ls.mapIdx fun i _ => lineF xs i }
theorem take8_lt {xs : List Nat} (hb : ∀ x ∈ xs, x < 256) (p : Nat) : nm ((xs.drop p).take 8) < 18446744073709551616 := by
  have h1 := nm_lt ((xs.drop p).take 8) fun x hx => hb x (List.mem_of_mem_drop (List.mem_of_mem_take hx))
  have h2 : ((xs.drop p).take 8).length ≤ 8 := by rw [List.length_take]; omega
  have h3 := Nat.pow_le_pow_right (show 0 < 256 by decide) h2
  have : (256 : Nat) ^ 8 = 18446744073709551616 := by decide
  omega
theorem lineF_wf {xs : List Nat} (hb : ∀ x ∈ xs, x < 256) (i : Nat) : WfL (lineF xs i) := by
  refine ⟨by simp [lineF], ?_, by simp [lineF], by simp [lineF], by simp [lineF], ?_⟩
  · intro s hs
    simp only [lineF, List.mem_singleton] at hs; subst hs; simp
  · intro s hs x hx
    simp only [lineF, List.mem_singleton] at hs; subst hs
    obtain ⟨j, hj, rfl⟩ := List.mem_iff_getElem.1 hx
    rw [List.getElem_mapIdx]; exact take8_lt hb _
/-- Bytes laid over others. -/
def spl {α : Type} (l : List α) (p : Nat) (b : List α) : List α := l.take p ++ b ++ l.drop (p + b.length)
theorem spl_length {α : Type} {l b : List α} {p : Nat} (h : p + b.length ≤ l.length) : (spl l p b).length = l.length := by
  simp only [spl, List.length_append, List.length_take, List.length_drop]; omega
theorem splice_spl {l b : List Value} {p : Nat} (h : p + b.length ≤ l.length) : splice l p b = spl l p b := splice_eq h
theorem spl_at {α : Type} {l b : List α} {p i : Nat} (h : p + b.length ≤ l.length) : (spl l p b)[i]? = if p ≤ i ∧ i < p + b.length then b[i - p]? else l[i]? := by
  unfold spl
  by_cases h1 : i < p
  · rw [if_neg (by omega), List.append_assoc, List.getElem?_append_left (by simp; omega), List.getElem?_take, if_pos h1]
  · by_cases h2 : i < p + b.length
    · rw [if_pos (by omega), List.append_assoc, List.getElem?_append_right (by simp; omega), List.getElem?_append_left (by simp; omega)]
      congr 1; simp; omega
    · rw [if_neg (by omega), List.getElem?_append_right (by simp; omega), List.getElem?_drop]
      congr 1; simp; omega
theorem spl_bys (l b : List Nat) (p : Nat) : spl (bys l) p (bys b) = bys (spl l p b) := by
  simp [spl, bys, List.map_take, List.map_drop]
/-- A word's bytes with some of them laid over. -/
def stW (p : Nat) (b : List Nat) (s : DevS) : List Nat := spl (le 8 ((seenL (s.ls.getD (p / 64) zline)).getD (p % 64 / 8) 0)) (p % 8) (b.take (8 - p % 8))
def storeF : Nat → Nat → List Nat → DevS → Int × DevS
  | 0, _, _, s => (0, s)
  | f + 1, p, b, s => if b = [] then (0, s) else
    if doneE (layS (p - p % 8) (nm (stW p b s)) s) ≠ 0 then (doneE (layS (p - p % 8) (nm (stW p b s)) s), doneS (layS (p - p % 8) (nm (stW p b s)) s))
    else storeF f (p + min (8 - p % 8) b.length) (b.drop (8 - p % 8)) (doneS (layS (p - p % 8) (nm (stW p b s)) s))
theorem storeF_nil (f p : Nat) (s : DevS) : storeF f p [] s = (0, s) := by cases f <;> rfl
theorem storeF_fuel : ∀ (f g : Nat) {p : Nat} {b : List Nat} {s : DevS}, b.length ≤ f → b.length ≤ g → storeF f p b s = storeF g p b s
  | f, g, p, [], s, _, _ => by rw [storeF_nil, storeF_nil]
  | 0, _, _, _ :: _, _, h, _ => by simp at h
  | _, 0, _, _ :: _, _, _, h => by simp at h
  | f + 1, g + 1, p, x :: b, s, hf, hg => by
    have hd : ((x :: b).drop (8 - p % 8)).length ≤ b.length := by rw [List.length_drop, List.length_cons]; omega
    simp only [List.length_cons] at hf hg
    unfold storeF
    rw [storeF_fuel f g (by omega) (by omega)]
/-- What Store answers, and the device behind it. -/
def sto (p : Int) (b : List Nat) (s : DevS) : Int × DevS := if rdy s.ls.length s.off p b.length ≠ 0 then (rdy s.ls.length s.off p b.length, s) else storeF b.length p.toNat b s
end Go.Vl

namespace Go.Vl
open Go Go.Proofs
/-- What a slice that is made looks like. -/
theorem fn_sl {P : Program} {f : FuncId} {args : Array Value} {A A0 : SP} {k n : Nat} {xs : List Value} (h : Fn P f args A (fun r B => B = A0 * Sl k r n xs)) : Fn P f args A (fun r B => ∃ a c, r = .slice a n c ∧ n ≤ c ∧ B = A0 * Sl k (.slice a n c) n xs) := fun g w hs => by
  refine (h g w hs).mono ?_; rintro e w' ⟨v, B, rfl, rfl, hB⟩
  obtain ⟨a, c, rfl, h1, _⟩ := sl_have hB
  exact ⟨_, _, rfl, ⟨a, c, rfl, h1, rfl⟩, hB⟩
theorem ql_env {P : Program} {n : Nat} {ops : Array Oper} {A : SP} {K : Env → Prop} {l : List Oper} {ρ : Env} {d : Nat} {v : Value} (h : ρ d = v) (k : QL P n ops A K l (upd ρ d v)) : QL P n ops A K l ρ := by
  rw [← env_set h] at k; exact k
theorem Ops_c {A R : SP} {C : SP → SP} {d : Nat} {s : DevS} (hc : Ct A (Dev d s) R C := by repeat (first | with_reducible exact ct_here | apply ct_left))  :
    Fn Try.prog 13 #[.pointer (some ⟨d, 0, none⟩)] A (fun r B => r = .int .i64 s.ops ∧ A = B) := by
  obtain ⟨rfl, hC⟩ := hc
  exact OpsD_f
theorem Off_c {A R : SP} {C : SP → SP} {d : Nat} {s : DevS} (hc : Ct A (Dev d s) R C := by repeat (first | with_reducible exact ct_here | apply ct_left))  :
    Fn Try.prog 47 #[.pointer (some ⟨d, 0, none⟩)] A (fun r B => r = .bool s.off ∧ A = B) := by
  obtain ⟨rfl, hC⟩ := hc
  exact OffD_f
theorem Store8_c {A R : SP} {C : SP → SP} {d : Nat} {s : DevS} (hc : Ct A (Dev d s) R C := by repeat (first | with_reducible exact ct_here | apply ct_left)) {v : Nat} {p : Int} (hp : -9223372036854775808 ≤ p ∧ p ≤ 9223372036854775807 := by omega) (hv : v < 18446744073709551616 := by omega) (hroom : Room 1 s := by assumption) :
    Fn Try.prog 77 #[.pointer (some ⟨d, 0, none⟩), .int .i64 p, .int .u64 (v : Nat)] A (fun r B => ∃ e s2, st8 p v s = (e, s2) ∧ r = .int .i64 e ∧ B = C (Dev d s2)) := by
  obtain ⟨rfl, hC⟩ := hc
  exact (Store8_f R d v p s hp hv hroom).mono fun _ _ h => ⟨(st8 p v s).1, (st8 p v s).2, rfl, h.1, by rw [hC]; exact h.2⟩
theorem Flush_c {A R : SP} {C : SP → SP} {d : Nat} {s : DevS} (hc : Ct A (Dev d s) R C := by repeat (first | with_reducible exact ct_here | apply ct_left)) {p : Int} (hp : -9223372036854775808 ≤ p ∧ p ≤ 9223372036854775807 := by omega) :
    Fn Try.prog 56 #[.pointer (some ⟨d, 0, none⟩), .int .i64 p] A (fun r B => ∃ e s2, fl1 p s = (e, s2) ∧ r = .int .i64 e ∧ B = C (Dev d s2)) := by
  obtain ⟨rfl, hC⟩ := hc
  exact (Flush_f R d p s hp).mono fun _ _ h => ⟨(fl1 p s).1, (fl1 p s).2, rfl, h.1, by rw [hC]; exact h.2⟩
theorem Fence_c {A R : SP} {C : SP → SP} {d : Nat} {s : DevS} (hc : Ct A (Dev d s) R C := by repeat (first | with_reducible exact ct_here | apply ct_left))  :
    Fn Try.prog 44 #[.pointer (some ⟨d, 0, none⟩)] A (fun r B => ∃ e s2, fe s = (e, s2) ∧ r = .int .i64 e ∧ B = C (Dev d s2)) := by
  obtain ⟨rfl, hC⟩ := hc
  exact (Fence_f R d s).mono fun _ _ h => ⟨(fe s).1, (fe s).2, rfl, h.1, by rw [hC]; exact h.2⟩
/-- What Crash answers, and the device behind it. -/
def crS (keep : List Int) (s : DevS) : Int × DevS := if s.off then (5, s) else if lowB keep then (2, s) else (0, goesS keep s)
theorem ready_c {A R : SP} {C : SP → SP} {d : Nat} {s : DevS} (hc : Ct A (Dev d s) R C := by repeat (first | with_reducible exact ct_here | apply ct_left)) {p m : Int} (hp : -9223372036854775808 ≤ p ∧ p ≤ 9223372036854775807 := by omega) (hm : -9223372036854775808 ≤ m ∧ m ≤ 9223372036854775807 := by omega) :
    Fn Try.prog 48 #[.pointer (some ⟨d, 0, none⟩), .int .i64 p, .int .i64 m] A (fun r B => r = .int .i64 (rdy s.ls.length s.off p m) ∧ A = B) := by
  obtain ⟨rfl, hC⟩ := hc
  exact fn_devR0 fun _ A bl svs av hR => ready_f A d bl s.ls.length s av hR.d hR.wf.pos hR.wf.top p m hp hm
theorem lay_c {A R : SP} {C : SP → SP} {d : Nat} {s : DevS} (hc : Ct A (Dev d s) R C := by repeat (first | with_reducible exact ct_here | apply ct_left)) {p v : Nat} (hat : p / 64 < s.ls.length := by omega) (hv : v < 18446744073709551616 := by omega) (hroom : Room 1 s := by assumption) :
    Fn Try.prog 71 #[.pointer (some ⟨d, 0, none⟩), .int .i64 (p : Nat), .int .u64 (v : Nat)] A (fun r B => r = .int .i64 (doneE (layS p v s)) ∧ B = C (Dev d (doneS (layS p v s)))) := by
  obtain ⟨rfl, hC⟩ := hc
  exact (lay_f R d p v s hat hv hroom).mono fun _ _ h => ⟨h.1, by rw [hC]; exact h.2⟩
theorem Image_c {A R : SP} {C : SP → SP} {d : Nat} {s : DevS} (hc : Ct A (Dev d s) R C := by repeat (first | with_reducible exact ct_here | apply ct_left))  :
    Fn Try.prog 15 #[.pointer (some ⟨d, 0, none⟩)] A (fun r B => ∃ a c, r = .slice a (s.ls.length * 64) c ∧ s.ls.length * 64 ≤ c ∧ B = A * Sl 1 (.slice a (s.ls.length * 64) c) (s.ls.length * 64) (bys (imgS s))) := by
  obtain ⟨rfl, hC⟩ := hc
  exact fn_sl (ImageD_f.mono fun _ _ ⟨X, h, e⟩ => by rw [h, e])
theorem Load_c {A R : SP} {C : SP → SP} {d : Nat} {s : DevS} (hc : Ct A (Dev d s) R C := by repeat (first | with_reducible exact ct_here | apply ct_left)) {p m : Nat} (hoff : s.off = false := by assumption) (hpm : p + m ≤ s.ls.length * 64 := by omega) :
    Fn Try.prog 28 #[.pointer (some ⟨d, 0, none⟩), .int .i64 (p : Nat), .int .i64 (m : Nat)] A (fun r B => ∃ a c, r = .tuple #[.slice a m c, .int .i64 0] ∧ m ≤ c ∧ B = A * Sl 1 (.slice a m c) m (bys (((imgS s).drop p).take m))) := by
  obtain ⟨rfl, hC⟩ := hc
  refine fun g w hs => (LoadD_f (F := R) (d := d) hoff hpm rfl g w hs).mono ?_; rintro e w' ⟨v, B, rfl, ⟨X, rfl, u, rfl, rfl⟩, hB⟩
  obtain ⟨a, c, rfl, h1, _⟩ := sl_have hB
  exact ⟨_, _, rfl, ⟨a, c, rfl, h1, rfl⟩, hB⟩
theorem LoadNo_c {A R : SP} {C : SP → SP} {d : Nat} {s : DevS} (hc : Ct A (Dev d s) R C := by repeat (first | with_reducible exact ct_here | apply ct_left)) {p m : Int} (hp : -9223372036854775808 ≤ p ∧ p ≤ 9223372036854775807 := by omega) (hm : -9223372036854775808 ≤ m ∧ m ≤ 9223372036854775807 := by omega) (hno : rdy s.ls.length s.off p m ≠ 0 := by assumption) :
    Fn Try.prog 28 #[.pointer (some ⟨d, 0, none⟩), .int .i64 p, .int .i64 m] A (fun r B => r = .tuple #[.slice none 0 0, .int .i64 (rdy s.ls.length s.off p m)] ∧ A = B) := by
  obtain ⟨rfl, hC⟩ := hc
  exact fn_devR0 fun _ A bl svs av hR => LoadNo_f A d bl svs av s hR p m hp hm hno
theorem New_c {A : SP} {n : Nat} {v : Int} (hv : v = ((n * 64 : Nat) : Int) := by omega) (hn : 0 < n := by omega) (hn2 : n ≤ 65536 := by omega) : Fn Try.prog 21 #[.int .i64 v] A (fun r B => ∃ d, r = .tuple #[.pointer (some ⟨d, 0, none⟩), .int .i64 0] ∧ B = A * Dev d (newS n)) := by
  subst hv; exact New_f A n hn hn2
theorem CopyBytes_c {A : SP} {a : Option Addr} {c m : Nat} {xs : List Nat} (hr : Rs A a (bys xs) := by repeat (first | assumption | with_reducible exact rs_sl | with_reducible exact rs_pt0 | exact rs_none | apply Rs.left)) (hm : xs.length = m := by first | assumption | rfl) (hl : m ≤ 140737488351232 := by omega) :
    Fn Try.prog 19 #[.slice a m c] A (fun r B => ∃ a' c', r = .slice a' m c' ∧ m ≤ c' ∧ B = A * Sl 1 (.slice a' m c') m (bys xs)) := by
  subst hm; exact fn_rs hr fun hr => fn_sl (CopyBytes_f A a c xs hr hl)
theorem EqBytes_c {A : SP} {a1 a2 : Option Addr} {c1 c2 n m : Nat} {xs ys : List Nat} (h1 : Rs A a1 (bys xs) := by repeat (first | assumption | with_reducible exact rs_sl | with_reducible exact rs_pt0 | exact rs_none | apply Rs.left)) (h2 : Rs A a2 (bys ys) := by repeat (first | assumption | with_reducible exact rs_sl | with_reducible exact rs_pt0 | exact rs_none | apply Rs.left)) (hx : xs.length = n := by first | assumption | rfl) (hy : ys.length = m := by first | assumption | rfl) (hn : n ≤ 4611686018427387904 := by omega) (hm : m ≤ 4611686018427387904 := by omega) :
    Fn Try.prog 10 #[.slice a1 n c1, .slice a2 m c2] A (fun r B => r = .bool (decide (xs = ys)) ∧ A = B) := by
  subst hx hy; exact fn_rs h1 fun h1 => fn_rs h2 fun h2 => EqBytes_f A a1 a2 c1 c2 xs ys h1 h2 hn hm
theorem Take64_c {A : SP} {a : Option Addr} {c m : Nat} {xs : List Nat} {p : Nat} (hr : Rs A a (bys xs) := by repeat (first | assumption | with_reducible exact rs_sl | with_reducible exact rs_pt0 | exact rs_none | apply Rs.left)) (hb : ∀ x ∈ xs, x < 256 := by assumption) (hm : xs.length = m := by first | assumption | rfl) (hp : p + 8 ≤ m := by omega) (hl : m ≤ 1099511627776 := by omega) :
    Fn Try.prog 38 #[.slice a m c, .int .i64 (p : Nat)] A (fun r B => r = .tuple #[.int .u64 ((nm ((xs.drop p).take 8) : Nat) : Int), .int .i64 0] ∧ A = B) := by
  subst hm; exact fn_rs hr fun hr => Take64_f A a c xs p hb hr hp hl
theorem Put64_c {A : SP} {a : Option Addr} {c m : Nat} {xs : List Nat} {v : Nat} (hr : Rs A a (bys xs) := by repeat (first | assumption | with_reducible exact rs_sl | with_reducible exact rs_pt0 | exact rs_none | apply Rs.left)) (hm : xs.length = m := by first | assumption | rfl) (hv : v < 18446744073709551616 := by omega) (hl : m ≤ 1099511627776 := by omega) :
    Fn Try.prog 50 #[.slice a m c, .int .u64 (v : Nat)] A (fun r B => ∃ a' c', r = .slice a' (m + 8) c' ∧ m + 8 ≤ c' ∧ B = A * Sl 1 (.slice a' (m + 8) c') (m + 8) (bys (xs ++ le 8 v))) := by
  subst hm; exact fn_rs hr fun hr => fn_sl ((Put64_f A a c xs v hr hv hl).mono fun _ _ ⟨u, e, h⟩ => by rw [e]; exact h)
end Go.Vl

namespace Go.Vl
open Go Go.Proofs
/-! ### Structs of ints that are held against each other -/
def intF (P : Program) (f : Field) : Bool := f.name != "_" && plainE P f.type && (match P.underlying f.type with | some (.int _) => true | _ => false)
/-- A struct whose fields are ints, one a cell. -/
def flatI (P : Program) (fs : Array Field) (n : Nat) : Bool := ((fs.toList.map fun f => f.offset) == List.range n) && fs.toList.all (intF P)
theorem range_eq {n : Nat} {xs ys : List Value} {l m : List Int} (hl : l.length = n) (hm : m.length = n) : ((List.range n).all fun i => l[i]? == m[i]?) = decide (l = m) := by
  by_cases e : l = m
  · subst e; simp
  · rw [decide_eq_false e]
    cases hb : (List.range n).all fun i => l[i]? == m[i]? with
    | false => rfl
    | true =>
      exfalso; apply e
      apply List.ext_getElem?
      intro i
      by_cases hi : i < n
      · rw [List.all_eq_true] at hb
        have := hb i (by simp; exact hi)
        simpa using this
      · rw [List.getElem?_eq_none (by omega), List.getElem?_eq_none (by omega)]
theorem eqst_run {P : Program} {t : TypeId} {fs : Array Field} {w : World} {n : Nat} (hu : P.underlying t = some (.struct fs)) (hst : P.stoodInHeld t = false) (hf : flatI P fs n = true) (l m : List Int) (hl : l.length = n) (hm : m.length = n) :
    (Op.equal t (.agg (ints l).toArray) (.agg (ints m).toArray)).run P w = .ok (decide (l = m)) w := by
  show (Op.equalIn (9999 + 1) t _ _).run P w = _
  unfold flatI at hf
  rw [Bool.and_eq_true, beq_iff_eq] at hf
  obtain ⟨ho, hall⟩ := hf
  have hlt : ∀ f ∈ fs.toList, f.offset < n := fun f hf => by
    have : f.offset ∈ fs.toList.map (fun f => f.offset) := List.mem_map_of_mem hf
    rw [ho] at this; simpa using this
  rw [Op.equalIn, run_bind (run_und hu)]
  simp only []
  rw [run_bind (w' := w) (a := P) (by rfl), if_neg (by rw [hst]; decide)]
  have hpart : ∀ (f : Field), f ∈ fs.toList → ∀ (zs : List Int), zs.length = n → (part f.type (ints zs).toArray f.offset).run P w = .ok (.int .i64 (zs[f.offset]?.getD 0)) w := fun f hf zs hz => by
    have h := hlt f hf
    have hp : plainE P f.type = true := by have := List.all_eq_true.1 hall f hf; simp [intF] at this; exact this.1.2
    unfold part
    rw [run_bind (run_isAgg_f hp)]
    have h' : f.offset < zs.length := by omega
    simp [ints, i64, h', pure]
  have heq : ∀ (f : Field), f ∈ fs.toList → ∀ (a b : Int), (Op.equalIn 9999 f.type (.int .i64 a) (.int .i64 b)).run P w = .ok (a == b) w := fun f hf a b => by
    have := List.all_eq_true.1 hall f hf
    simp only [intF, Bool.and_eq_true] at this
    obtain ⟨_, h2⟩ := this
    show (Op.equalIn (9998 + 1) f.type (.int .i64 a) (.int .i64 b)).run P w = _
    cases hq : P.underlying f.type with
    | none => simp [hq] at h2
    | some d =>
      rw [hq] at h2
      cases d <;> simp at h2
      rw [Op.equalIn, run_bind (run_und hq)]; simp [pure]
  have hname : ∀ f ∈ fs.toList, f.name ≠ "_" := fun f hf => by have := List.all_eq_true.1 hall f hf; simp [intF] at this; exact this.1.1
  rw [← Array.forIn_toList]
  have hall' := run_all (P := P) (w := w) (fun (f : Field) __s => 
      if f.name ≠ "_" then do
        let a ← part f.type (ints l).toArray f.offset
        let b ← part f.type (ints m).toArray f.offset
        let c ← Op.equalIn 9999 f.type a b
        if (!c) = true then pure (ForInStep.done (some false, ())) else pure (ForInStep.yield (none, ()))
      else pure (ForInStep.yield (none, ()))) (fun f => l[f.offset]? == m[f.offset]?) fs.toList (fun f hf => by
    rw [if_pos (hname f hf), run_bind (hpart f hf l hl), run_bind (hpart f hf m hm), run_bind (heq f hf _ _)]
    have h := hlt f hf
    have h1 : l[f.offset]? = some (l[f.offset]'(by omega)) := List.getElem?_eq_getElem _
    have h2 : m[f.offset]? = some (m[f.offset]'(by omega)) := List.getElem?_eq_getElem _
    rw [h1, h2]
    by_cases hc : (l[f.offset]'(by omega)) = (m[f.offset]'(by omega)) <;> simp [hc, pure])
  rw [run_bind hall']
  have e : (fs.toList.all fun f => l[f.offset]? == m[f.offset]?) = decide (l = m) := by
    rw [← range_eq (xs := []) (ys := []) hl hm, ← ho, List.all_map]; rfl
  rw [e]
  by_cases h : l = m <;> simp [h, pure]
section
variable {P : Program} {n : Nat} {ρ : Env} {A : SP} {dst : Option Tmp} {ty : TypeId} {pos : String} {after : Array Edge} {gd : Option (Nat × Bool)}
theorem o_nest {t t' : TypeId} {x y : Operand} {k : Nat} {fs : Array Field} {l m : List Int} (hu : P.underlying t = some (.struct fs)) (hst : P.stoodInHeld t = false) (hf : flatI P fs k = true) (hge : P.eqGuardType P.depth t = false)
    (hx : ev n ρ x = .agg (ints l).toArray) (hy : ev n ρ y = .agg (ints m).toArray) (h1 : l.length = k) (h2 : m.length = k) :
    OpV P n ρ A ⟨dst, .binOp .neq t x y t', ty, pos, after, gd⟩ (.bool (!decide (l = m))) := opv_of fun w => by
  simp only [execOp, hx, hy]
  rw [run_bind (w' := w) (a := .bool (!decide (l = m)))]
  · rfl
  rw [run_bind (w' := w) (a := ())]
  · show (do pure (Value.bool (!(← Op.equal t (.agg (ints l).toArray) (.agg (ints m).toArray)))) : Sem Value).run P w = _
    rw [run_bind (eqst_run hu hst hf l m h1 h2)]; rfl
  · simp [eqGuard, hge, program, bind, Sem.bind, Sem.run, pure]
/-! ### A slice as an array -/
/-! ### 32 bits -/
theorem o_compl32 {t : TypeId} {x : Operand} {a : Nat} (hx : ev n ρ x = .int .u32 (a : Nat)) (ha : a < 4294967296) : OpV P n ρ A ⟨dst, .unOp .xor t x, ty, pos, after, gd⟩ (.int .u32 ((a ^^^ 4294967295 : Nat) : Int)) := (o_compl hx).cast (by
  have h1 : (BitVec.ofInt IntKind.u32.bits (if IntKind.u32.signed then -1 else IntKind.u32.max)).toNat = 4294967295 := by decide
  rw [BitVec.toNat_xor, h1, bv_of .u32 a (by simpa [IntKind.bits] using ha), Nat.xor_comm, wrap_fit .u32 rfl _ (Nat.xor_lt_two_pow (by simpa [IntKind.bits] using ha) (by decide))])
theorem o_neg32 {t : TypeId} {x : Operand} {a : Nat} (hx : ev n ρ x = .int .u32 (a : Nat)) (ha : a < 2) : OpV P n ρ A ⟨dst, .unOp .neg t x, ty, pos, after, gd⟩ (.int .u32 ((a * 4294967295 : Nat) : Int)) := (o_neg hx).cast (by
  have : a = 0 ∨ a = 1 := by omega
  rcases this with rfl | rfl <;> rfl)
/-! ### Bytes that may be a string's -/
end
/-- A string of bytes. -/
def sob (xs : List Nat) : ByteArray := ⟨(xs.map fun n => UInt8.ofNat n).toArray⟩
end Go.Vl

namespace Go.Vl
open Go Go.Proofs
/-! ### The sum's law -/
def crs (r : Nat) : Nat := (r / 2) ^^^ (2197175160 * (r % 2))
def crk : Nat → Nat → Nat
  | 0, r => r
  | k + 1, r => crs (crk k r)
def crL (r : Nat) : List Nat → Nat
  | [] => r
  | x :: xs => crL (crk 8 (r ^^^ x)) xs
def crc (s : Nat) (xs : List Nat) : Nat := crL (s ^^^ 4294967295) xs ^^^ 4294967295
theorem x32 {a b : Nat} (ha : a < 4294967296) (hb : b < 4294967296) : a ^^^ b < 4294967296 := Nat.xor_lt_two_pow (n := 32) ha hb
theorem crs_lt {r : Nat} (h : r < 4294967296) : crs r < 4294967296 := x32 (by omega) (by omega)
theorem crk_lt {r : Nat} (h : r < 4294967296) : ∀ k, crk k r < 4294967296
  | 0 => h
  | k + 1 => crs_lt (crk_lt h k)
theorem crL_lt : ∀ {xs : List Nat} {r : Nat}, r < 4294967296 → (∀ x ∈ xs, x < 256) → crL r xs < 4294967296
  | [], _, h, _ => h
  | x :: xs, r, h, hb => crL_lt (xs := xs) (crk_lt (x32 h (by have := hb x (by simp); omega)) 8) fun y hy => hb y (by simp [hy])
theorem crL_snoc : ∀ {xs : List Nat} {r x : Nat}, crL r (xs ++ [x]) = crk 8 (crL r xs ^^^ x)
  | [], _, _ => rfl
  | y :: ys, r, x => by show crL _ (ys ++ [x]) = _; rw [crL_snoc]; rfl
theorem crL_take {xs : List Nat} {r i : Nat} (h : i < xs.length) : crL r (xs.take (i + 1)) = crk 8 (crL r (xs.take i) ^^^ xs[i]) := by
  rw [List.take_succ_eq_append_getElem h, crL_snoc]
theorem crc_lt {s : Nat} {xs : List Nat} (h : s < 4294967296) (hb : ∀ x ∈ xs, x < 256) : crc s xs < 4294967296 := x32 (crL_lt (x32 h (by decide)) hb) (by decide)
theorem tk_b {xs : List Nat} {i : Nat} (hb : ∀ x ∈ xs, x < 256) : ∀ x ∈ xs.take i, x < 256 := fun x hx => hb x (List.mem_of_mem_take hx)
theorem and1 (r : Nat) : r &&& 1 = r % 2 := Nat.and_one_is_mod r
theorem crs_and (r : Nat) : (r / 2) ^^^ (2197175160 &&& (r % 2 * 4294967295)) = crs r := by
  unfold crs
  have : r % 2 = 0 ∨ r % 2 = 1 := by omega
  rcases this with h | h <;> rw [h] <;> rfl
theorem crk_and (k c : Nat) : (crk k c / 2 ^ 1) ^^^ (2197175160 &&& (crk k c % 2 * 4294967295)) = crk (k + 1) c := crs_and _
theorem crk_0 (c : Nat) : c = crk 0 c := rfl
theorem crL_0 (c : Nat) (xs : List Nat) : c = crL c (xs.take 0) := by rw [List.take_zero]; rfl
theorem crc_of (s : Nat) (xs : List Nat) {m : Nat} (h : xs.length = m) : crL (s ^^^ 4294967295) (xs.take m) ^^^ 4294967295 = crc s xs := by rw [← h, List.take_length]; rfl
/-- The document's register: the sum's, and what of the byte is not yet in it. -/
def rfk (k c x : Nat) : Nat := crk k c ^^^ x / 2 ^ k
section
variable {P : Program} {n : Nat} {ρ : Env} {A : SP} {dst : Option Tmp} {ty : TypeId} {pos : String} {after : Array Edge} {gd : Option (Nat × Bool)}
end
attribute [local irreducible] crk crL crc Sl pt ro
theorem More_c {A : SP} {a : Option Addr} {m c s : Nat} {xs : List Nat} (hr : Rs A a (bys xs) := by repeat (first | assumption | with_reducible exact rs_sl | with_reducible exact rs_pt0 | exact rs_none | apply Rs.left)) (hm : xs.length = m := by first | assumption | rfl) (hb : ∀ x ∈ xs, x < 256 := by assumption) (hs : s < 4294967296 := by omega) (hl : m ≤ 1099511627776 := by omega) :
    Fn Try.prog 89 #[.int .u32 (s : Nat), .slice a m c] (A) (fun r B => r = .int .u32 ((crc s xs : Nat) : Int) ∧ A = B) := by
  refine fn_enterW (args := [.int .u32 (s : Nat), .slice a m c]) Try.func89 rfl Try.ntmps89 (by simp) ?_; refine sr ?_; refine tla ?_; refine nq ?_; refine sr ?_; refine tlm ?_; refine tv (o_compl32 rfl hs) ?_; refine tla ?_; refine nq ?_; refine tc_seq ?_; refine sr ?_; refine tlm ?_; refine tv (o_len Try.underlying22 rfl) ?_; refine tlm ?_; refine nq ?_; refine tc_block ?_; refine tc_loop (fun kk ρ BB => ∃ (i : Nat), (i ≤ m) ∧ kk = m - i ∧ ρ 5 = .int .u32 ((crL (s ^^^ 4294967295) (xs.take i) : Nat) : Int) ∧ ρ 13 = .int .i64 (i : Nat) ∧ ρ 11 = .slice a m c ∧ ρ 12 = .int .i64 (m : Nat) ∧ BB = A) (m := m - (0)) ?_ ?_
  · exact ⟨0, by omega, rfl, congrArg (fun z : Nat => Value.int .u32 (z : Int)) (crL_0 _ _), rfl, rfl, rfl, rfl⟩
  · intro k ρ B hI
    obtain ⟨i, hp0, hkk1, hE5, hE13, hE11, hE12, hBA⟩ := hI
    obtain rfl := hBA.symm
    refine tc_env (d := 5) hE5 ?_; refine tc_env (d := 13) hE13 ?_; refine tc_env (d := 11) hE11 ?_; refine tc_env (d := 12) hE12 ?_
    clear hE5 hE13 hE11 hE12
    refine sr ?_; refine tv (o_lss rfl rfl) ?_; refine nq ?_; refine tc_seq ?_; refine tc_cond rfl (fun h => ?_) (fun h => ?_)
    · have hi : i < xs.length := by simp at h; omega
      have hx256 := hb _ (List.getElem_mem hi)
      have hC := crL_lt (x32 hs (by decide : 4294967295 < 4294967296)) (tk_b (i := i) hb)
      have hR := x32 hC (show xs[i] < 4294967296 by omega)
      refine tc_skip ?_; refine q_then_n ?_; refine tc_seq ?_; refine tc_block ?_; refine sr ?_; refine tv (o_ixP1 Try.underlying22 sz5 rfl rfl (by first | omega | (simp only [bys_length, ints_length, wds_length, bos_length, List.length_append, List.length_take, List.length_drop, List.length_singleton]; omega)) (by repeat (first | exact nn_some | with_reducible exact nn_sl (by decide) | exact nn_rs (by assumption) (fun _ => by first | omega | (simp only [bys_length, ints_length, wds_length, bos_length, List.length_append, List.length_take, List.length_drop, List.length_singleton]; omega)) | apply Nn.left))) ?_; refine tv (o_ldP p5 rfl hr (bys_at (by assumption))) ?_; refine tla ?_; refine nq ?_; refine sr ?_; refine tlm ?_; refine tlm ?_; refine tv (by first | exact o_conv32 Try.underlying5 Try.underlying135 rfl | exact o_conv Try.underlying5 Try.underlying135 rfl) ?_; refine tl_env (d := 19) (v := .int .u32 ((xs[i] : Nat) : Int)) (congrArg (fun z : Nat => Value.int .u32 (z : Int)) (Nat.mod_eq_of_lt (by omega))) ?_; refine tv (o_xorN rfl rfl rfl (by show _ < 4294967296; assumption) (by show _ < 4294967296; omega)) ?_; refine tla ?_; refine nq ?_; refine sr ?_; refine tlm ?_; refine nq ?_; refine tc_block ?_; refine tc_loop (fun kk ρ BB => ∃ (k : Nat), (k ≤ 8) ∧ kk = 8 - k ∧ ρ 5 = .int .u32 ((crk k (crL (s ^^^ 4294967295) (xs.take i) ^^^ xs[i]) : Nat) : Int) ∧ ρ 21 = .int .i64 (k : Nat) ∧ ρ 11 = .slice a m c ∧ ρ 12 = .int .i64 (m : Nat) ∧ ρ 13 = .int .i64 (i : Nat) ∧ BB = A) (m := 8 - (0)) ?_ ?_
      · exact ⟨0, by omega, rfl, congrArg (fun z : Nat => Value.int .u32 (z : Int)) (crk_0 _), rfl, rfl, rfl, rfl, rfl⟩
      · intro k ρ B hI
        obtain ⟨k, hp0, hkk2, hE5, hE21, hE11, hE12, hE13, hBA⟩ := hI
        obtain rfl := hBA.symm
        refine tc_env (d := 5) hE5 ?_; refine tc_env (d := 21) hE21 ?_; refine tc_env (d := 11) hE11 ?_; refine tc_env (d := 12) hE12 ?_; refine tc_env (d := 13) hE13 ?_
        clear hE5 hE21 hE11 hE12 hE13
        refine sr ?_; refine tv (o_lss rfl rfl) ?_; refine nq ?_; refine tc_seq ?_; refine tc_cond rfl (fun h => ?_) (fun h => ?_)
        · have hk := crk_lt hR k
          have hk8 : k < 8 := by simp at h; omega
          refine tc_skip ?_; refine q_then_n ?_; refine tc_seq ?_; refine tc_block ?_; refine sr ?_; refine tlm ?_; refine tv ((o_andN (b := 1) rfl rfl rfl (by show _ < 4294967296; assumption) (by decide)).cast (by rw [and1])) ?_; refine tla ?_; refine nq ?_; refine sr ?_; refine tlm ?_; refine tv (o_shrN (b := 1) rfl rfl rfl (by decide)) ?_; refine tla ?_; refine nq ?_; refine tc_reg ?_; refine tlm ?_; refine tlm ?_; refine tv (o_neg32 rfl (by omega)) ?_; refine tv (o_andN (a := 2197175160) rfl rfl rfl (by decide) (by show _ < 4294967296; omega)) ?_; refine tv (o_xorN rfl rfl rfl (by show _ < 4294967296; omega) (by show _ < 4294967296; exact Nat.and_lt_two_pow (n := 32) _ (by show _ < 4294967296; omega))) ?_; refine tla ?_; refine tl_nil ?_; refine q_block_n (q_then_n ?_); refine tc_reg ?_; refine tv (by first | exact o_addI rfl rfl (by omega) | exact o_add rfl rfl) ?_; refine tlm ?_; refine nq ?_; exact ⟨_, by omega, k + 1, by omega, rfl, congrArg (fun z : Nat => Value.int .u32 (z : Int)) (crk_and _ _), rfl, rfl, rfl, rfl, rfl⟩
        · obtain rfl : k = 8 := by simp at h; omega
          refine tc_exit ?_; refine q_then_e (q_then_e (q_block_x (q_block_n (q_then_n ?_)))); refine tc_reg ?_; refine tv (by first | exact o_addI rfl rfl (by omega) | exact o_add rfl rfl) ?_; refine tlm ?_; refine nq ?_; exact ⟨_, by omega, i + 1, by omega, rfl, congrArg (fun z : Nat => Value.int .u32 (z : Int)) (crL_take hi).symm, rfl, rfl, rfl, rfl⟩
    · obtain rfl : i = m := by simp at h; omega
      have hC2 := crL_lt (x32 hs (by decide : 4294967295 < 4294967296)) (tk_b (i := i) hb)
      refine tc_exit ?_; refine q_then_e (q_then_e (q_block_x (q_then_n ?_))); refine sr ?_; refine tlm ?_; refine tv (o_compl32 rfl hC2) ?_; refine tla ?_; refine nq ?_; refine tc_ret ?_; exact ⟨.int .u32 ((crc s xs : Nat) : Int), A, res1 rfl (congrArg (fun z : Nat => Value.int .u32 (z : Int)) (crc_of s xs hm)), fun _ _ h => h, rfl, rfl⟩
end Go.Vl

namespace Go.Vl
open Go Go.Proofs
/-! ### Sums of parts -/
def crcs (ls : List (List Nat)) : Nat := ls.foldl crc 0
theorem crcs_take {ls : List (List Nat)} {i : Nat} (h : i < ls.length) : crcs (ls.take (i + 1)) = crc (crcs (ls.take i)) ls[i] := by
  unfold crcs; rw [List.take_succ_eq_append_getElem h, List.foldl_append]; rfl
theorem crcs_lt {ls : List (List Nat)} (hb : ∀ l ∈ ls, ∀ x ∈ l, x < 256) : crcs ls < 4294967296 := by
  unfold crcs
  have : ∀ (ls : List (List Nat)) (s : Nat), (∀ l ∈ ls, ∀ x ∈ l, x < 256) → s < 4294967296 → ls.foldl crc s < 4294967296 := by
    intro ls
    induction ls with
    | nil => intro s _ h; exact h
    | cons l ls ih => intro s hb h; exact ih _ (fun l hl => hb l (by simp [hl])) (crc_lt h (hb l (by simp)))
  exact this ls 0 hb (by decide)
attribute [local irreducible] crk crL crc Sl pt ro
theorem Sum_c {A : SP} {a : Option Addr} {m c : Nat} {ls : List (List Nat)} (hr : RdRows A a ls) (hm : ls.length = m := by first | assumption | rfl) (hb : ∀ l ∈ ls, ∀ x ∈ l, x < 256) (hl : ∀ l ∈ ls, l.length ≤ 1099511627776) (hm2 : m ≤ 1099511627776 := by omega) :
    Fn Try.prog 74 #[.slice a m c] (A) (fun r B => r = .int .u32 ((crcs ls : Nat) : Int) ∧ A = B) := by
  refine fn_enterW (args := [.slice a m c]) Try.func74 rfl Try.ntmps74 (by simp) ?_
  obtain ⟨vs, hvl, hra, hrows⟩ := hr
  have hra := rs_rd hra
  refine sr ?_; refine tla ?_; refine nq ?_; refine sr ?_; refine tla ?_; refine nq ?_; refine tc_seq ?_; refine sr ?_; refine tlm ?_; refine tv (o_len Try.underlying149 rfl) ?_; refine tlm ?_; refine nq ?_; refine tc_block ?_; refine tc_loop (fun kk ρ BB => ∃ (i : Nat), (i ≤ m) ∧ kk = m - i ∧ ρ 3 = .int .u32 ((crcs (ls.take i) : Nat) : Int) ∧ ρ 8 = .int .i64 (i : Nat) ∧ ρ 6 = .slice a m c ∧ ρ 7 = .int .i64 (m : Nat) ∧ BB = A) (m := m - (0)) ?_ ?_
  · exact ⟨0, by omega, rfl, rfl, rfl, rfl, rfl, rfl⟩
  · intro k ρ B hI
    obtain ⟨i, hp0, hkk1, hE3, hE8, hE6, hE7, hBA⟩ := hI
    obtain rfl := hBA.symm
    refine tc_env (d := 3) hE3 ?_; refine tc_env (d := 8) hE8 ?_; refine tc_env (d := 6) hE6 ?_; refine tc_env (d := 7) hE7 ?_
    clear hE3 hE8 hE6 hE7
    refine sr ?_; refine tv (o_lss rfl rfl) ?_; refine nq ?_; refine tc_seq ?_; refine tc_cond rfl (fun h => ?_) (fun h => ?_)
    · have hi : i < ls.length := by simp at h; omega
      obtain ⟨ai, ci, hvi, hri⟩ := hrows i hi
      have hri := rs_rd hri
      have hbi := hb _ (List.getElem_mem hi)
      have hli := hl _ (List.getElem_mem hi)
      have hs32 := crcs_lt (ls := ls.take i) fun l hl => hb l (List.mem_of_mem_take hl)
      refine tc_skip ?_; refine q_then_n ?_; refine tc_seq ?_; refine tc_block ?_; refine sr ?_; refine tv (o_ixP1 Try.underlying149 sz22 rfl rfl (by omega) (nn_rs hra (by omega))) ?_; refine tv (o_ldP p22 rfl hra hvi) ?_; refine tla ?_; refine nq ?_; refine tc_reg ?_; refine tlm ?_; refine tlm ?_; refine tl_c rfl (o_call bd89 rfl (More_c (hr := hri) (hb := hbi) (hl := hli) (hs := hs32))) ?_; rintro _ _ ⟨rfl, rfl⟩; refine tla ?_; refine tl_nil ?_; refine q_block_n (q_then_n ?_); refine tc_reg ?_; refine tv (by first | exact o_addI rfl rfl (by omega) | exact o_add rfl rfl) ?_; refine tlm ?_; refine nq ?_; exact ⟨_, by omega, i + 1, by omega, rfl, congrArg (fun z : Nat => Value.int .u32 (z : Int)) (crcs_take hi).symm, rfl, rfl, rfl, rfl⟩
    · try simp only [lv1, lv2, lv3, lv4, lv5, lv6, Bool.not_true, Bool.not_false] at h
      refine tc_exit ?_; refine q_then_e (q_then_e (q_block_x (q_then_n ?_))); refine sr ?_; refine tlm ?_; refine tla ?_; refine nq ?_; refine tc_ret ?_
      obtain rfl : i = m := by omega
      exact ⟨.int .u32 ((crcs ls : Nat) : Int), A, res1 rfl (congrArg (fun z : Nat => Value.int .u32 (z : Int)) (congrArg crcs (List.take_of_length_le (by omega)))), fun _ _ h => h, rfl, rfl⟩
end Go.Vl

namespace Go.Vl
open Go Go.Proofs
def sbys (s : ByteArray) : List Nat := s.data.toList.map fun b => b.toNat
end Go.Vl

namespace Go.Vl
open Go Go.Proofs
def planL (n : Int) : List Int := [n, 128, 32768, 32896, (n - 32896) / 256]
def planT (n : Int) : List Int × Int := if 36992 ≤ n ∧ n ≤ 4194304 ∧ n % 64 = 0 then (planL n, 0) else ([0, 0, 0, 0, 0], 80)
end Go.Vl

namespace Go.Vl
open Go Go.Proofs
def magicB : List Nat := [86, 69, 76, 76, 85, 77, 48, 49]
def mbs (ns : List Nat) : List Nat := magicB ++ ns.flatMap (le 8)
def sbB (ns : List Nat) : List Nat := mbs ns ++ le 8 (crc 0 (mbs ns))
end Go.Vl

namespace Go.Vl
open Go Go.Proofs
def lineT (q0 q1 q2 q3 q4 : Int) : List Nat × Int := if planT q0 = ([q0, q1, q2, q3, q4], 0) then (sbB [q0.toNat, 128, 32768, 32896, (q0.toNat - 32896) / 256, 0], 0) else ([], 100)
end Go.Vl

namespace Go.Vl
open Go Go.Proofs
/-- A device of which some lines are laid. -/
def fromP (n : Nat) (xs : List Nat) (i : Nat) : DevS := { newS n with ls := pm (fun j _ => lineF xs j) i (newS n).ls }
theorem fromP_zero (n : Nat) (xs : List Nat) : fromP n xs 0 = newS n := by unfold fromP; rw [pm_zero]
theorem fromP_all (n : Nat) (xs : List Nat) : fromP n xs n = fromS n xs := by
  have h : (newS n).ls.length = n := by simp [newS]
  have := pm_all (fun j _ => lineF xs j) (newS n).ls
  rw [h] at this
  unfold fromP fromS; rw [this]
theorem fromP_len (n : Nat) (xs : List Nat) (i : Nat) : (fromP n xs i).ls.length = n := by simp [fromP, pm_length, newS]
theorem fromP_at {n : Nat} (xs : List Nat) {i : Nat} (h : i < n) : (fromP n xs i).ls[i]'(by rw [fromP_len]; exact h) = zline := by
  simp only [fromP]
  rw [pm_at _ (by simpa [newS] using h)]; simp [newS]
theorem fromP_set {n : Nat} (xs : List Nat) {i : Nat} (h : i < n) : { fromP n xs i with ls := (fromP n xs i).ls.set i (lineF xs i) } = fromP n xs (i + 1) := by
  have hl : i < (newS n).ls.length := by simpa [newS] using h
  have := pm_set (fun j _ => lineF xs j) hl
  unfold fromP; simp only [this]
theorem fromP_wf {n : Nat} {xs : List Nat} {i : Nat} (h : 0 < n) (h2 : n ≤ 65536) (hb : ∀ x ∈ xs, x < 256) : WfD (fromP n xs i) :=
  ⟨by rw [fromP_len]; exact h, by rw [fromP_len]; exact h2, fun l hl => by
    obtain ⟨j, hj, rfl⟩ := List.mem_iff_getElem.1 hl
    simp only [fromP, pm, List.getElem_mapIdx]
    split
    · exact lineF_wf hb _
    · simp only [newS, List.getElem_replicate]; exact zline_wf, by simp [fromP, newS], by simp [fromP, newS], by simp [fromP, newS]⟩
def lineW (xs : List Nat) (i k : Nat) : List Nat := pm (fun k _ => wordF xs i k) k (List.replicate 8 0)
theorem lineW_zero (xs : List Nat) (i : Nat) : lineW xs i 0 = List.replicate 8 0 := pm_zero _ _
theorem lineW_set (xs : List Nat) (i : Nat) {k : Nat} (h : k < 8) : (lineW xs i k).set k (wordF xs i k) = lineW xs i (k + 1) := by
  have := pm_set (fun k _ => wordF xs i k) (l := List.replicate 8 0) (k := k) (by simpa using h)
  exact this
theorem lineW_all (xs : List Nat) (i : Nat) : (⟨[lineW xs i 8], -1⟩ : LineS) = lineF xs i := by
  have := pm_all (fun k _ => wordF xs i k) (List.replicate 8 0)
  rw [List.length_replicate] at this
  unfold lineF lineW; rw [this]
theorem From_c {F : SP} {a : Option Addr} {c m : Nat} {xs : List Nat} (n : Nat) (hr : Rs F a (bys xs) := by repeat (first | assumption | with_reducible exact rs_sl | with_reducible exact rs_pt0 | exact rs_none | apply Rs.left)) (hx : xs.length = m := by first | assumption | rfl) (hm : m = n * 64 := by omega) (hb : ∀ x ∈ xs, x < 256 := by assumption) (hn : 0 < n := by omega) (hn2 : n ≤ 65536 := by omega) :
    Fn Try.prog 18 #[.slice a m c] (F) (fun r B => ∃ d, r = .tuple #[.pointer (some ⟨d, 0, none⟩), .int .i64 0] ∧ B = F * Dev d (fromS n xs)) := by
  refine fn_enterW (args := [.slice a m c]) Try.func18 rfl Try.ntmps18 (by simp) ?_; refine sr ?_; refine tla ?_; refine tla ?_; refine nq ?_; refine sr ?_; refine tlm ?_; refine tv (o_len Try.underlying22 rfl) ?_; refine tl_c rfl (o_call bd21 rfl (New_c (n := n))) ?_; rintro _ _ ⟨d12, rfl, rfl⟩; refine tlm ?_; refine tv (o_extract rfl rfl) ?_; refine tv (o_extract rfl rfl) ?_; refine tla ?_; refine tla ?_; refine nq ?_; refine tc_seq ?_; refine sr ?_; refine tlm ?_; refine tv (o_nei rfl rfl) ?_; refine nq ?_; refine tc_cond rfl (fun h => ?_) (fun h => ?_)
  · (exfalso; first | (revert h; simp; done) | (simp at h; done) | (revert h; simp; omega) | (simp at h; omega) | omega)
  · try simp only [lv1, lv2, lv3, lv4, lv5, lv6, Bool.not_true, Bool.not_false] at h
    refine tc_skip ?_; refine q_then_n ?_; refine tc_seq ?_; refine sr ?_; refine tlm ?_; refine tv (o_nilCheck rfl) ?_; refine tv (o_fieldAddr (o := 0) Try.underlying80 rfl rfl sz77 rfl) ?_
    rw [← fromP_zero n xs]
    refine tl_dev fun hw bl svs av kvs hsv hkv => ?_; refine tv (o_load p77 rfl devC_d rfl) ?_; refine tv (o_len Try.underlying77 rfl) ?_
    rw [fromP_len]
    refine tl_pre (dev_back hw hsv hkv) ?_; refine tlm ?_; refine nq ?_; refine tc_block ?_; refine tc_loop (fun kk ρ BB => ∃ (i : Nat), (i ≤ n) ∧ kk = n - i ∧ ρ 23 = .int .i64 (i : Nat) ∧ ρ 0 = .slice a m c ∧ ρ 4 = .pointer (some ⟨d12, 0, none⟩) ∧ ρ 22 = .int .i64 (n : Nat) ∧ BB = F * Dev d12 (fromP n xs i)) (m := n - (0)) ?_ ?_
    · exact ⟨0, by omega, rfl, rfl, rfl, rfl, rfl, rfl⟩
    · intro k ρ B hI
      obtain ⟨i, hp0, hkk1, hE23, hE0, hE4, hE22, rfl⟩ := hI
      refine tc_env (d := 23) hE23 ?_; refine tc_env (d := 0) hE0 ?_; refine tc_env (d := 4) hE4 ?_; refine tc_env (d := 22) hE22 ?_
      clear hE23 hE0 hE4 hE22
      refine sr ?_; refine tv (o_lss rfl rfl) ?_; refine nq ?_; refine tc_seq ?_; refine tc_cond rfl (fun h => ?_) (fun h => ?_)
      · try simp only [lv1, lv2, lv3, lv4, lv5, lv6, Bool.not_true, Bool.not_false] at h
        refine tc_skip ?_; refine q_then_n ?_; refine tc_seq ?_; refine tc_block ?_; refine sr ?_; refine tlm ?_; refine tla ?_; refine nq ?_; refine sr ?_; refine tlm ?_; refine tv (o_nilCheck rfl) ?_; refine tv (o_fieldAddr (o := 0) Try.underlying80 rfl rfl sz77 rfl) ?_; refine tl_dev fun hw bl svs av kvs hsv hkv => ?_
        have hi : i < (fromP n xs i).ls.length := by rw [fromP_len]; omega
        obtain ⟨R, hf1, hf2⟩ := devC_focus (d := d12) (bl := bl) (kvs := kvs) (av := av) (s := fromP n xs i) hsv hi
        refine tl_eq (hf1 F) ?_
        rw [fromP_at xs (show i < n by omega)]
        refine tl_have (fun _ _ h => sl_have' rfl h) fun ⟨a', c', hvv, hn', hl', hrd⟩ => ?_
        rw [hvv] at hrd ⊢
        obtain ⟨b, o, rfl, _⟩ := hrd.some (by decide)
        have hsl : svs.length = n := by rw [hsv, fromP_len]
        have hcell : (lcs svs (fromP n xs i).ls)[i * 2 + 0]? = some (.slice (some ⟨b, o, none⟩) 1 c') := by rw [Nat.add_zero, lcs_sv hsv (by omega), hvv]; rfl
        rw [show (fromP n xs i).ls.length = n from fromP_len n xs i]
        refine tv (by first | exact o_load p77 rfl (by repeat (first | with_reducible exact has_here | with_reducible exact has_pt | apply has_left)) rfl | exact o_loadC p77 rfl (by assumption)) ?_; refine tlm ?_; refine tv (o_indexAddrN Try.underlying77 sz86 rfl rfl (by omega)) ?_; refine tv (o_fieldAddr (o := 0) Try.underlying86 rfl rfl sz84 rfl) ?_; refine tv (o_loadC p84 rfl (cell_of_has (by repeat (first | with_reducible exact has_here | with_reducible exact has_pt | apply has_left)) (by rw [Nat.zero_add]; exact hcell))) ?_; refine tv (o_indexAddrN (j := 0) Try.underlying84 sz83 rfl rfl (by decide)) ?_; refine tla ?_; refine nq ?_; refine sr ?_; refine tlm ?_; refine nq ?_; refine tc_block ?_; refine tc_loop (fun kk ρ BB => ∃ (k : Nat), (k ≤ 8) ∧ kk = 8 - k ∧ ρ 35 = .int .i64 (k : Nat) ∧ ρ 0 = .slice a m c ∧ ρ 4 = .pointer (some ⟨d12, 0, none⟩) ∧ ρ 6 = .int .i64 (i : Nat) ∧ ρ 7 = .pointer (some ⟨b, o, none⟩) ∧ ρ 22 = .int .i64 (n : Nat) ∧ ρ 23 = .int .i64 (i : Nat) ∧ BB = F * R * pt bl (cl (lcs svs (fromP n xs i).ls) 86) * pt d12 (cl (dcs bl n (fromP n xs i) av) 80) * Sl 8 (.slice (some ⟨b, o, none⟩) 1 c') 1 (wds (lineW xs i k))) (m := 8 - (0)) ?_ ?_
        · exact ⟨0, by omega, rfl, rfl, rfl, rfl, rfl, rfl, rfl, rfl, by rw [lineW_zero]; rfl⟩
        · intro k ρ B hI
          obtain ⟨k, hp0, hkk2, hE35, hE0, hE4, hE6, hE7, hE22, hE23, rfl⟩ := hI
          refine tc_env (d := 35) hE35 ?_; refine tc_env (d := 0) hE0 ?_; refine tc_env (d := 4) hE4 ?_; refine tc_env (d := 6) hE6 ?_; refine tc_env (d := 7) hE7 ?_; refine tc_env (d := 22) hE22 ?_; refine tc_env (d := 23) hE23 ?_
          clear hE35 hE0 hE4 hE6 hE7 hE22 hE23
          refine sr ?_; refine tv (o_lss rfl rfl) ?_; refine nq ?_; refine tc_seq ?_; refine tc_cond rfl (fun h => ?_) (fun h => ?_)
          · try simp only [lv1, lv2, lv3, lv4, lv5, lv6, Bool.not_true, Bool.not_false] at h
            refine tc_skip ?_; refine q_then_n ?_; refine tc_seq ?_; refine tc_block ?_; refine sr ?_; refine tlm ?_; refine tla ?_; refine nq ?_; refine tc_regh (S := F * R * pt bl (cl (lcs svs (fromP n xs i).ls) 86) * pt d12 (cl (dcs bl n (fromP n xs i) av) 80)) mo (by repeat (first | with_reducible exact dr_refl | apply dr_keep | apply dr_drop)) ?_
            show TH _ _ _ _ _ 15 #[ff,ff,ff,ff,ff,ff,ff,ff,ff,ff,ff,ff,ff,ff,ff] _ _
            refine th_take (i := 0) (listed' := #[tt,ff,ff,ff,ff,ff,ff,ff,ff,ff,ff,ff,ff,ff,ff]) rfl (by kernel_rfl) (by kernel_rfl) (by kernel_rfl) rfl rfl (o_move (by conv => lhs; whnf)) ?_; refine th_take (i := 1) (listed' := #[tt,tt,ff,ff,ff,ff,ff,ff,ff,ff,ff,ff,ff,ff,ff]) rfl (by kernel_rfl) (by kernel_rfl) (by kernel_rfl) rfl rfl (o_move (by conv => lhs; whnf)) ?_; refine th_take (i := 2) (listed' := #[tt,tt,tt,ff,ff,ff,ff,ff,ff,ff,ff,ff,ff,ff,ff]) rfl (by kernel_rfl) (by kernel_rfl) (by kernel_rfl) rfl rfl (o_move (by conv => lhs; whnf)) ?_; refine th_take (i := 3) (listed' := #[tt,tt,tt,tt,ff,ff,ff,ff,ff,ff,ff,ff,ff,ff,ff]) rfl (by kernel_rfl) (by kernel_rfl) (by kernel_rfl) rfl rfl (o_move (by conv => lhs; whnf)) ?_; refine th_take (i := 4) (listed' := #[tt,tt,tt,tt,tt,ff,ff,ff,ff,ff,ff,ff,ff,ff,ff]) rfl (by kernel_rfl) (by kernel_rfl) (by kernel_rfl) rfl rfl (by first | exact o_mulI rfl rfl (by omega) | exact o_mul rfl rfl) ?_; refine th_take (i := 5) (listed' := #[tt,tt,tt,tt,tt,tt,ff,ff,ff,ff,ff,ff,ff,ff,ff]) rfl (by kernel_rfl) (by kernel_rfl) (by kernel_rfl) rfl rfl (o_move (by conv => lhs; whnf)) ?_; refine th_take (i := 6) (listed' := #[tt,tt,tt,tt,tt,tt,tt,ff,ff,ff,ff,ff,ff,ff,ff]) rfl (by kernel_rfl) (by kernel_rfl) (by kernel_rfl) rfl rfl (by first | exact o_mulI rfl rfl (by omega) | exact o_mul rfl rfl) ?_; refine th_take (i := 7) (listed' := #[tt,tt,tt,tt,tt,tt,tt,tt,ff,ff,ff,ff,ff,ff,ff]) rfl (by kernel_rfl) (by kernel_rfl) (by kernel_rfl) rfl rfl (by first | exact o_addI rfl rfl (by omega) | exact o_add rfl rfl) ?_
            refine th_env (d := 46) (v := .int .i64 ((i * 64 + k * 8 : Nat) : Int)) (rfl) ?_; refine th_take (i := 12) (listed' := #[tt,tt,tt,tt,tt,tt,tt,tt,ff,ff,ff,ff,tt,ff,ff]) rfl (by kernel_rfl) (by kernel_rfl) (by kernel_rfl) rfl rfl (o_nilCheck rfl) ?_; refine th_one (i := 8) (by kernel_rfl) ?_; refine oh_c (i := 8) (listed' := #[tt,tt,tt,tt,tt,tt,tt,tt,tt,ff,ff,ff,tt,ff,ff]) rfl rfl rfl (o_call bd38 rfl (Take64_c)) ?_; rintro _ _ ⟨rfl, rfl⟩; refine ⟨by repeat (first | with_reducible exact dr_refl | apply dr_keep | apply dr_drop), ?_⟩; refine th_take (i := 9) (listed' := #[tt,tt,tt,tt,tt,tt,tt,tt,tt,tt,ff,ff,tt,ff,ff]) rfl (by kernel_rfl) (by kernel_rfl) (by kernel_rfl) rfl rfl (o_move (by conv => lhs; whnf)) ?_; refine th_take (i := 10) (listed' := #[tt,tt,tt,tt,tt,tt,tt,tt,tt,tt,tt,ff,tt,ff,ff]) rfl (by kernel_rfl) (by kernel_rfl) (by kernel_rfl) rfl rfl (o_extract rfl rfl) ?_; refine th_take (i := 11) (listed' := #[tt,tt,tt,tt,tt,tt,tt,tt,tt,tt,tt,tt,tt,ff,ff]) rfl (by kernel_rfl) (by kernel_rfl) (by kernel_rfl) rfl rfl (o_extract rfl rfl) ?_; refine th_take (i := 13) (listed' := #[tt,tt,tt,tt,tt,tt,tt,tt,tt,tt,tt,tt,tt,tt,ff]) rfl (by kernel_rfl) (by kernel_rfl) (by kernel_rfl) rfl rfl (o_indexAddrAN1 (j := k) Try.underlying83 sz81 rfl rfl (by omega)) ?_; refine th_one (i := 14) (by kernel_rfl) ?_; refine oh_u (i := 14) (listed' := #[tt,tt,tt,tt,tt,tt,tt,tt,tt,tt,tt,tt,tt,tt,tt]) rfl rfl rfl (o_storeSlK (i := k) (k := 8) (m := 1) (xs := wds (lineW xs i k)) (ys := wds ((lineW xs i k).set k (wordF xs i k))) sz81 rfl rfl rfl (by omega) (wds_set' _ _ _) (by repeat (first | with_reducible exact foc_here | apply foc_left))) (by repeat (first | with_reducible exact dr_refl | apply dr_keep | apply dr_drop)) ?_
            refine th_done (by kernel_rfl) ?_; refine q_block_n (q_then_n ?_); refine tc_reg ?_; refine tv (by first | exact o_addI rfl rfl (by omega) | exact o_add rfl rfl) ?_; refine tlm ?_; refine nq ?_; exact ⟨_, by omega, k + 1, by omega, rfl, rfl, rfl, rfl, rfl, rfl, rfl, rfl, by rw [← lineW_set xs i (by omega)]⟩
          · try simp only [lv1, lv2, lv3, lv4, lv5, lv6, Bool.not_true, Bool.not_false] at h
            refine tc_exit ?_; refine q_then_e (q_then_e (q_block_x (q_block_n (q_then_n ?_)))); refine tc_reg ?_
            obtain rfl : k = 8 := by omega
            have hfin := hf2 F (.slice (some ⟨b, o, none⟩) 1 c') (lineF xs i)
            refine tl_eq (A' := F * DevC d12 bl (svs.set i (.slice (some ⟨b, o, none⟩) 1 c')) av kvs { fromP n xs i with ls := (fromP n xs i).ls.set i (lineF xs i) }) ?_ ?_
            · rw [← hfin, ← lineW_all]
              have e1 : lcs (svs.set i (.slice (some ⟨b, o, none⟩) 1 c')) ((fromP n xs i).ls.set i ⟨[lineW xs i 8], -1⟩) = lcs svs (fromP n xs i).ls := by
                rw [← lcs_set_sv (⟨[lineW xs i 8], -1⟩ : LineS) hsv hi (by rw [fromP_at xs (show i < n by omega)]; rfl)]
                have h1 : i * 2 < (lcs svs (fromP n xs i).ls).length := by rw [lcs_length hsv]; omega
                have h2 := List.getElem?_eq_getElem h1
                rw [Nat.add_zero] at hcell
                rw [hcell] at h2
                rw [Option.some.inj h2]
                exact set_getElem h1
              rw [e1, fromP_len]; rfl
            refine tl_pre (dev_back (by rw [fromP_set xs (show i < n by omega)]; exact fromP_wf hn hn2 hb) (by simp [hsv]) hkv) ?_
            rw [fromP_set xs (show i < n by omega)]
            refine tv (by first | exact o_addI rfl rfl (by omega) | exact o_add rfl rfl) ?_; refine tlm ?_; refine nq ?_; exact ⟨_, by omega, i + 1, by omega, rfl, rfl, rfl, rfl, rfl, rfl⟩
      · try simp only [lv1, lv2, lv3, lv4, lv5, lv6, Bool.not_true, Bool.not_false] at h
        refine tc_exit ?_; refine q_then_e (q_then_e (q_block_x (q_then_n ?_))); refine sr ?_; refine tlm ?_; refine tla ?_; refine tla ?_; refine nq ?_; refine tc_ret ?_
        obtain rfl : i = n := by omega
        rw [fromP_all]
        exact ⟨_, _, res2 rfl rfl rfl, fun _ _ h => h, d12, rfl, rfl⟩
end Go.Vl

namespace Go.Vl
open Go Go.Proofs
theorem doneE_ok {s : DevS} (h : doneE s = 0) : (doneS s).off = s.off ∧ (doneS s).ls = s.ls := by
  unfold doneE at h; unfold doneS
  split <;> rename_i e
  · exact ⟨rfl, rfl⟩
  · rw [e] at h
    split
    · exact ⟨rfl, rfl⟩
    · rename_i h1; simp [h1] at h
theorem layS_off (p v : Nat) (s : DevS) : (layS p v s).off = s.off := (onLine_fields _ _ s).2.2.2.1
theorem layS_len (p v : Nat) (s : DevS) : (layS p v s).ls.length = s.ls.length := (onLine_fields _ _ s).2.2.2.2
theorem stW_len {p : Nat} {b : List Nat} {s : DevS} : (stW p b s).length = 8 := by
  unfold stW; rw [spl_length, le_length]; rw [le_length, List.length_take]; omega
theorem stW_bytes {p : Nat} {b : List Nat} {s : DevS} (hb : ∀ x ∈ b, x < 256) : ∀ x ∈ stW p b s, x < 256 := fun x hx => by
  unfold stW spl at hx
  simp only [List.mem_append] at hx
  rcases hx with (h | h) | h
  · exact le_bytes _ _ _ (List.mem_of_mem_take h)
  · exact hb _ (List.mem_of_mem_take h)
  · exact le_bytes _ _ _ (List.mem_of_mem_drop h)
theorem storeF_step {p : Nat} {b : List Nat} {s : DevS} (h : b ≠ []) : storeF b.length p b s = if doneE (layS (p - p % 8) (nm (stW p b s)) s) ≠ 0 then (doneE (layS (p - p % 8) (nm (stW p b s)) s), doneS (layS (p - p % 8) (nm (stW p b s)) s))
    else storeF (b.drop (8 - p % 8)).length (p + min b.length (8 - p % 8)) (b.drop (8 - p % 8)) (doneS (layS (p - p % 8) (nm (stW p b s)) s)) := by
  match b, h with
  | x :: l, _ =>
    show storeF (l.length + 1) p (x :: l) s = _
    conv => lhs; unfold storeF
    rw [if_neg (by simp)]
    split
    · rfl
    · rw [Nat.min_comm]; exact storeF_fuel _ _ (by rw [List.length_drop, List.length_cons]; omega) (Nat.le_refl _)
theorem stW_cells {p n : Nat} {b : List Nat} {s : DevS} {w : Nat} (hw : w = (seenL (s.ls.getD (p / 64) zline)).getD (p % 64 / 8) 0) (hn : n = min b.length (8 - p % 8)) : splice (bys (le 8 w)) (p % 8) ((bys b).take n) = bys (stW p b s) := by
  have h1 : (bys b).take n = bys (b.take (8 - p % 8)) := by
    unfold bys; rw [← List.map_take]; congr 1
    rw [hn]
    rcases Nat.le_total b.length (8 - p % 8) with h | h
    · rw [Nat.min_eq_left h, List.take_length, List.take_of_length_le h]
    · rw [Nat.min_eq_right h]
  rw [h1, splice_spl (by simp only [bys_length, le_length, List.length_take]; omega), spl_bys, hw]; rfl
theorem stW_nm {p : Nat} {b : List Nat} {s : DevS} (hb : ∀ x ∈ b, x < 256) : nm (stW p b s) < 18446744073709551616 := by
  have := nm_lt _ (stW_bytes (p := p) (s := s) hb)
  rw [stW_len] at this; exact this
theorem seenL_getD {s : DevS} {i : Nat} (h : i < s.ls.length) : s.ls.getD i zline = s.ls[i] := by simp [List.getD, h]
set_option maxRecDepth 20000 in
set_option maxHeartbeats 1000000 in
theorem StoreW_f (F : SP) {a : Option Addr} {c m d : Nat} {p0 : Int} {s : DevS} {xs : List Nat} (hr : Rs F a (bys xs)) (hm : xs.length = m) (hmc : m ≤ c) (hb : ∀ x ∈ xs, x < 256) (hml : m ≤ 140737488351232) (hp : -9223372036854775808 ≤ p0 ∧ p0 ≤ 9223372036854775807) (hroom : rdy s.ls.length s.off p0 m = 0 → Room m s) :
    Fn Try.prog 55 #[.pointer (some ⟨d, 0, none⟩), .int .i64 p0, .slice a m c] (F * Dev d s) (fun r B => r = .int .i64 (sto p0 xs s).1 ∧ B = F * Dev d (sto p0 xs s).2) := by
  have hE := @fn_enterW Try.prog 55 Try.f55 _ [.pointer (some ⟨d, 0, none⟩), .int .i64 p0, .slice a m c] (F * Dev d s) (fun r B => r = .int .i64 (sto p0 xs s).1 ∧ B = F * Dev d (sto p0 xs s).2) _ Try.func55 rfl Try.ntmps55 (by simp)
  refine hE ?_
  clear hE
  refine tc_dev fun hw _ _ _ _ _ _ => ?_
  have hpos := hw.pos
  have htop := hw.top
  refine tc_pre (dev_back hw ‹_› ‹_›) ?_; refine sr ?_; refine tla ?_; refine nq ?_; refine tc_seq ?_; refine sr ?_; refine tlm ?_; refine tlm ?_; refine tlm ?_; refine tv (o_len Try.underlying22 rfl) ?_; refine tl_c rfl (o_call bd48 rfl (ready_c)) ?_; rintro _ _ ⟨rfl, rfl⟩; refine tla ?_; refine nq ?_; refine sr ?_; refine tlm ?_; refine tv (o_nei rfl rfl) ?_; refine nq ?_; refine tc_cond rfl (fun h => ?_) (fun h => ?_)
  · try simp only [lv1, lv2, lv3, lv4, lv5, lv6, Bool.not_true, Bool.not_false] at h
    refine sr ?_; refine tlm ?_; refine tla ?_; refine nq ?_; refine tc_ret ?_; refine q_then_r ?_
    have hs : sto p0 xs s = (rdy s.ls.length s.off p0 m, s) := by unfold sto; rw [hm, if_pos h]
    rw [hs]
    exact ⟨_, _, res1 rfl rfl, fun _ _ h => h, rfl, rfl⟩
  · simp only [bne_iff_ne, ne_eq, decide_eq_false_iff_not, Decidable.not_not] at h
    have hr0 := rdy0 h
    obtain ⟨q, rfl⟩ := Int.eq_ofNat_of_zero_le hr0.2.1
    have hsto : sto (q : Int) xs s = storeF xs.length q xs s := by unfold sto; rw [hm, if_neg (by omega)]; rfl
    rw [hsto]
    refine tc_skip ?_; refine q_then_n ?_; refine tc_seq ?_; refine tc_block ?_; refine tc_loop (fun kk ρ BB => ∃ (p : Nat) (m1 : Nat) (c1 : Nat) (a1 : Option Addr) (b : List Nat) (s1 : DevS), (storeF b.length p b s1 = storeF xs.length q xs s) ∧ (b.length = m1) ∧ (Rs F a1 (bys b)) ∧ (∀ x ∈ b, x < 256) ∧ (m1 ≤ c1) ∧ (p + m1 ≤ s1.ls.length * 64) ∧ (s1.off = false) ∧ (Room m1 s1) ∧ (m1 ≤ m) ∧ (s1.ls.length = s.ls.length) ∧ kk = m1 ∧ ρ 1 = .int .i64 (p : Nat) ∧ ρ 2 = .slice a1 m1 c1 ∧ ρ 0 = .pointer (some ⟨d, 0, none⟩) ∧ BB = F * Dev d s1) (m := (m)) ?_ ?_
    · exact ⟨q, m, c, a, xs, s, rfl, hm, hr, hb, hmc, by omega, hr0.1, hroom h, Nat.le_refl _, rfl, rfl, rfl, rfl, rfl, rfl⟩
    · intro k ρ B hI
      obtain ⟨p, m1, c1, a1, b, s1, hp0, hp1, hp2, hp3, hp4, hp5, hp6, hp7, hp8, hp9, hkk1, hE1, hE2, hE0, rfl⟩ := hI
      refine tc_env (d := 1) hE1 ?_; refine tc_env (d := 2) hE2 ?_; refine tc_env (d := 0) hE0 ?_
      clear hE1 hE2 hE0
      refine tc_seq ?_; refine sr ?_; refine tlm ?_; refine tv (o_len Try.underlying22 rfl) ?_; refine tv (o_gtr rfl rfl) ?_; refine nq ?_; refine tc_cond rfl (fun h => ?_) (fun h => ?_)
      · simp only [decide_eq_true_eq, gt_iff_lt] at h
        have hb0 : b ≠ [] := by intro e; subst e; simp at hp1; omega
        have hpl : p / 64 < s1.ls.length := by omega
        have hpn : p ≤ 4194304 := by omega
        refine tc_skip ?_; refine q_then_n ?_; refine tc_block ?_; refine sr ?_; refine tlm ?_; refine tlm ?_; refine tv (o_remN (b := 8) rfl rfl (by omega)) ?_; refine tv (by first | exact o_subI rfl rfl (by omega) | exact o_sub rfl rfl) ?_; refine tl_env (d := 29) (v := .int .i64 ((p - p % 8 : Nat) : Int)) (by show Value.int .i64 ((p : Int) - ((p % 8 : Nat) : Int)) = _; congr 1; omega) ?_; refine tla ?_; refine nq ?_; refine sr ?_; refine tlm ?_; refine tv (o_nilCheck rfl) ?_; refine tl_dev fun hw1 bl svs av kvs hsv hkv => ?_; refine tl_have (fun _ _ h => devR_of hw1 hsv h) fun hR => ?_
        have hwl := hw1.line _ (List.getElem_mem hpl)
        have hs8 := hwl.eight _ (seenL_mem hwl)
        have hq1 : (p - p % 8) / 64 = p / 64 := by omega
        have hq2 : (p - p % 8) % 64 / 8 = p % 64 / 8 := by omega
        refine tv (o_fieldAddr (o := 0) Try.underlying80 rfl rfl sz77 rfl) ?_; refine tv (o_load p77 rfl devC_d rfl) ?_; refine tlm ?_; refine tv (o_quoN (b := 64) rfl rfl (by omega)) ?_; refine tv (o_indexAddrN (j := p / 64) Try.underlying77 sz86 rfl (by show Value.int .i64 _ = Value.int .i64 _; congr 2) hpl) ?_; refine tl_c rfl (o_call bd35 rfl (seenR_f hR hpl)) ?_; rintro _ _ ⟨rfl, rfl⟩; refine tl_pre (dev_back hw1 hsv hkv) ?_; refine tl_x rfl (o_alloc z83 rfl) ?_; rintro _ _ ⟨b9, rfl, rfl⟩; refine tl_u rfl (o_stUN (l' := wds (seenL s1.ls[p / 64])) rfl upd_here sz83 rfl (by rw [wds_length]; exact hs8) (wds_all _) (by simp) (splice_all (by rw [wds_length, hs8]; rfl))) ?_; refine nq ?_; refine sr ?_; refine tl_x rfl (o_alloc z130 rfl) ?_; rintro _ _ ⟨b10, rfl, rfl⟩; refine nq ?_; refine tc_seq ?_; refine tc_regh (S := F * Dev d s1 * pt b9 (cl (wds (seenL s1.ls[p / 64])) 83)) mo (by repeat (first | with_reducible exact dr_refl | apply dr_keep | apply dr_drop)) ?_
        show TH _ _ _ _ _ 8 #[ff,ff,ff,ff,ff,ff,ff,ff] _ _
        refine th_take (i := 0) (listed' := #[tt,ff,ff,ff,ff,ff,ff,ff]) rfl (by kernel_rfl) (by kernel_rfl) (by kernel_rfl) rfl rfl (o_sliceA Try.underlying130 sz5 rfl bnd_none bnd_none (by omega) (by omega)) ?_; refine th_take (i := 1) (listed' := #[tt,tt,ff,ff,ff,ff,ff,ff]) rfl (by kernel_rfl) (by kernel_rfl) (by kernel_rfl) rfl rfl (o_move (by conv => lhs; whnf)) ?_; refine th_take (i := 2) (listed' := #[tt,tt,tt,ff,ff,ff,ff,ff]) rfl (by kernel_rfl) (by kernel_rfl) (by kernel_rfl) rfl rfl (o_remN (b := 64) rfl rfl (by omega)) ?_; refine th_take (i := 3) (listed' := #[tt,tt,tt,tt,ff,ff,ff,ff]) rfl (by kernel_rfl) (by kernel_rfl) (by kernel_rfl) rfl rfl (o_quoN (b := 8) rfl rfl (by omega)) ?_; refine th_take (i := 4) (listed' := #[tt,tt,tt,tt,tt,ff,ff,ff]) rfl (by kernel_rfl) (by kernel_rfl) (by kernel_rfl) rfl rfl (o_indexAddrAN1 (j := p % 64 / 8) Try.underlying83 sz81 rfl (by show Value.int .i64 _ = Value.int .i64 _; congr 2) (by omega)) ?_; refine th_take (i := 5) (listed' := #[tt,tt,tt,tt,tt,tt,ff,ff]) rfl (by kernel_rfl) (by kernel_rfl) (by kernel_rfl) rfl rfl (o_load p81 rfl (by repeat (first | with_reducible exact has_here | with_reducible exact has_pt | apply has_left)) (by rw [Nat.zero_add]; exact wds_at (i := p % 64 / 8) (by rw [hs8]; omega))) ?_; refine th_one (i := 6) (by kernel_rfl) ?_; refine oh_c (i := 6) (listed' := #[tt,tt,tt,tt,tt,tt,tt,ff]) rfl rfl rfl (o_call bd50 rfl (Put64_c (xs := []) (hv := hwl.words _ (seenL_mem hwl) _ (List.getElem_mem _)))) ?_
        rintro _ _ ⟨a44, c44, rfl, hc44, rfl⟩; refine ⟨by repeat (first | with_reducible exact dr_refl | apply dr_keep | apply dr_drop), ?_⟩; refine th_one (i := 7) (by kernel_rfl) ?_; refine oh_x (i := 7) (listed' := #[tt,tt,tt,tt,tt,tt,tt,tt]) rfl rfl rfl (o_cpB (m := 8) (l' := bys (le 8 ((seenL s1.ls[p / 64])[p % 64 / 8]'(by rw [hs8]; omega)))) rfl (by repeat (first | with_reducible exact upd_here | with_reducible exact upd_pt | apply upd_left)) Try.underlying22 sz5 rfl (by repeat (first | assumption | with_reducible exact rs_sl | with_reducible exact rs_pt0 | exact rs_none | apply Rs.left)) (by rw [bys_length, List.nil_append, le_length]) rfl (bys_all _) (by simp) (by rw [List.nil_append, List.take_of_length_le (by rw [bys_length, le_length]; omega)]; exact splice_all (by rw [bys_length, le_length]; rfl))) ?_; rintro _ _ ⟨rfl, rfl⟩; refine ⟨by repeat (first | with_reducible exact dr_refl | apply dr_keep | apply dr_drop), ?_⟩; refine th_done (by kernel_rfl) ?_; refine q_then_n ?_; refine sr ?_; refine tlm ?_; refine tlm ?_; refine tv (by first | exact o_subI rfl rfl (by omega) | exact o_sub rfl rfl) ?_; refine tl_env (d := 48) (v := .int .i64 ((p % 8 : Nat) : Int)) (by show Value.int .i64 ((p : Int) - ((p - p % 8 : Nat) : Int)) = _; congr 1; omega) ?_; refine tv (o_sliceA Try.underlying130 sz5 rfl (bnd_nat rfl) bnd_none (by omega) (by omega)) ?_; refine tl_env (d := 49) (v := .slice (some ⟨b10, p % 8, none⟩) (8 - p % 8) (8 - p % 8)) (by show Value.slice (cutAddr _ _ _ _) _ _ = _; rw [cut_lt (by omega)]; simp) ?_
        refine tlm ?_; refine tl_x rfl (o_cpB (m := min m1 (8 - p % 8)) (xs := bys b) (l' := bys (stW p b s1)) rfl (by repeat (first | with_reducible exact upd_here | with_reducible exact upd_pt | apply upd_left)) Try.underlying22 sz5 rfl (by repeat (first | assumption | with_reducible exact rs_sl | with_reducible exact rs_pt0 | exact rs_none | apply Rs.left)) (by rw [bys_length, hp1]) rfl (bys_all _) (by rw [bys_length, le_length]; omega) (stW_cells (by rw [seenL_getD hpl]; simp [List.getD, hs8, show p % 64 / 8 < 8 by omega]) (by rw [hp1]))) ?_; rintro _ _ ⟨rfl, rfl⟩; refine tla ?_; refine nq ?_; refine sr ?_; refine tv (o_sliceA Try.underlying130 sz5 rfl bnd_none bnd_none (by omega) (by omega)) ?_; refine tl_env (d := 53) (v := .slice (some ⟨b10, 0, none⟩) 8 8) (rfl) ?_; refine tl_c rfl (o_call bd38 rfl (Take64_c (xs := stW p b s1) (hm := stW_len) (hb := stW_bytes hp3) (p := 0))) ?_; rintro _ _ ⟨rfl, rfl⟩; refine tlm ?_; refine tv (o_extract rfl rfl) ?_; refine tv (o_extract rfl rfl) ?_; refine tla ?_; refine tl_env (d := 12) (v := .int .u64 ((nm (stW p b s1) : Nat) : Int)) (by show Value.int .u64 ((nm (((stW p b s1).drop 0).take 8) : Nat) : Int) = _; rw [List.drop_zero, List.take_of_length_le (by rw [stW_len]; omega)]) ?_; refine tla ?_; refine nq ?_; refine tc_seq ?_; refine tc_seq ?_
        refine tc_reg ?_; refine tlm ?_; refine tlm ?_; refine tlm ?_
        have hrm1 : Room 1 s1 := fun l hl => by have := hp7 l hl; omega
        refine tl_c rfl (o_call bd71 rfl (lay_c (p := p - p % 8) (hat := by rw [hq1]; exact hpl) (hv := stW_nm hp3))) ?_; rintro _ _ ⟨rfl, rfl⟩; refine tla ?_; refine nq ?_; refine sr ?_; refine tlm ?_; refine tv (o_nei rfl rfl) ?_; refine nq ?_; refine tc_cond rfl (fun h => ?_) (fun h => ?_)
        · try simp only [lv1, lv2, lv3, lv4, lv5, lv6, Bool.not_true, Bool.not_false] at h
          refine sr ?_; refine tlm ?_; refine tla ?_; refine nq ?_; refine tc_ret ?_; refine q_then_r (q_block_r (q_then_r (q_block_r (q_then_r ?_))))
          simp only [decide_eq_true_eq, ne_eq] at h
          have e : storeF xs.length q xs s = (doneE (layS (p - p % 8) (nm (stW p b s1)) s1), doneS (layS (p - p % 8) (nm (stW p b s1)) s1)) := by rw [← hp0, storeF_step hb0, if_pos h]
          exact ⟨.int .i64 (doneE (layS (p - p % 8) (nm (stW p b s1)) s1)), F * Dev d (doneS (layS (p - p % 8) (nm (stW p b s1)) s1)), res1 rfl rfl, Dr.sat (by repeat (first | with_reducible exact dr_refl | apply dr_keep | apply dr_drop)), by rw [e], by rw [e]⟩
        · simp only [decide_eq_false_iff_not, ne_eq, Decidable.not_not] at h
          obtain ⟨hd1, hd2⟩ := doneE_ok h
          have hstep : storeF (b.drop (8 - p % 8)).length (p + min m1 (8 - p % 8)) (b.drop (8 - p % 8)) (doneS (layS (p - p % 8) (nm (stW p b s1)) s1)) = storeF xs.length q xs s := by rw [← hp0, storeF_step hb0, if_neg (by simpa using h), hp1]
          have hrm2 : Room (m1 - min m1 (8 - p % 8)) (doneS (layS (p - p % 8) (nm (stW p b s1)) s1)) := fun l hl => by
            rw [hd2] at hl
            have h1 : Room ((m1 - 1) + 1) s1 := fun l hl => by have := hp7 l hl; omega
            have := onLine_room (f := layL ((p - p % 8) % 64 / 8) (nm (stW p b s1))) (i := (p - p % 8) / 64) h1 (fun l => by simp [layL]) l hl
            omega
          have hrs2 : Rs F (cutAddr a1 c1 (min m1 (8 - p % 8)) 1) (bys (b.drop (8 - p % 8))) := by
            have h1 := rs_cut (l := min m1 (8 - p % 8)) (k := 1) (cap := c1) hp2 (by rw [bys_length]; omega)
            have h2 : (bys b).drop (min m1 (8 - p % 8) * 1) = bys (b.drop (8 - p % 8)) := by
              unfold bys
              rw [← List.map_drop, Nat.mul_one]; congr 1
              rcases Nat.le_total m1 (8 - p % 8) with h | h
              · rw [Nat.min_eq_left h, List.drop_of_length_le (by omega), List.drop_of_length_le (by omega)]
              · rw [Nat.min_eq_right h]
            rw [h2] at h1; exact h1
          refine tc_skip ?_; refine q_then_n ?_; refine sr ?_; refine tlm ?_; refine tlm ?_; refine tv (by first | exact o_addI rfl rfl (by omega) | exact o_add rfl rfl) ?_; refine tl_env (d := 66) (v := .int .i64 ((p + min m1 (8 - p % 8) : Nat) : Int)) (rfl) ?_; refine tla ?_; refine nq ?_; refine tc_reg ?_; refine tlm ?_; refine tlm ?_; refine tv (o_slice Try.underlying22 sz5 rfl (bnd_nat rfl) bnd_none (Nat.min_le_left _ _) hp4) ?_; refine tl_pre (Dr.sat (A' := F * Dev d (doneS (layS (p - p % 8) (nm (stW p b s1)) s1))) (by repeat (first | with_reducible exact dr_refl | apply dr_keep | apply dr_drop))) ?_; refine tla ?_; refine tl_nil ?_; refine q_block_n (q_then_n ?_); exact ⟨_, by omega, p + min m1 (8 - p % 8), m1 - min m1 (8 - p % 8), _, _, b.drop (8 - p % 8), _, hstep, by rw [List.length_drop]; omega, hrs2, fun x hx => hp3 x (List.mem_of_mem_drop hx), by omega, by rw [hd2, layS_len]; omega, by rw [hd1, layS_off]; exact hp6, hrm2, by omega, by rw [hd2, layS_len]; exact hp9, rfl, rfl, rfl, rfl, rfl⟩
      · try simp only [lv1, lv2, lv3, lv4, lv5, lv6, Bool.not_true, Bool.not_false] at h
        refine tc_exit ?_; refine q_then_e (q_then_e (q_block_x (q_then_n ?_))); refine sr ?_; refine tla ?_; refine nq ?_; refine tc_ret ?_
        obtain rfl : b = [] := by cases b with
          | nil => rfl
          | cons _ _ => simp at hp1; omega
        have e : storeF xs.length q xs s = (0, s1) := by rw [← hp0, storeF_nil]
        exact ⟨.int .i64 0, F * Dev d s1, res1 rfl rfl, fun _ _ h => h, by rw [e], by rw [e]⟩
theorem Store_c {A R : SP} {C : SP → SP} {d : Nat} {s : DevS} (hc : Ct A (Dev d s) R C := by repeat (first | with_reducible exact ct_here | apply ct_left)) {a : Option Addr} {c m : Nat} {p : Int} {xs : List Nat} (hr : Rs R a (bys xs) := by repeat (first | assumption | with_reducible exact rs_sl | with_reducible exact rs_pt0 | exact rs_none | apply Rs.left)) (hm : xs.length = m := by first | assumption | rfl) (hmc : m ≤ c := by first | assumption | omega) (hb : ∀ x ∈ xs, x < 256 := by assumption) (hml : m ≤ 140737488351232 := by omega) (hp : -9223372036854775808 ≤ p ∧ p ≤ 9223372036854775807 := by omega) (hroom : rdy s.ls.length s.off p m = 0 → Room m s := by assumption) :
    Fn Try.prog 55 #[.pointer (some ⟨d, 0, none⟩), .int .i64 p, .slice a m c] A (fun r B => ∃ e s2, sto p xs s = (e, s2) ∧ r = .int .i64 e ∧ B = C (Dev d s2)) := by
  obtain ⟨rfl, hC⟩ := hc
  exact (StoreW_f R hr hm hmc hb hml hp hroom).mono fun _ _ h => ⟨(sto p xs s).1, (sto p xs s).2, rfl, h.1, by rw [hC]; exact h.2⟩
end Go.Vl

namespace Go.Vl
open Go Go.Proofs
/-- Arms, to be read. -/
structure RdA (A : SP) (a : Option Addr) (kvs : List Value) (ars : List (Int × List Int)) : Prop where
  rd : Rs A a (acs kvs ars)
  len : kvs.length = ars.length
  keep : ∀ i (h : i < ars.length), ∃ b c, kvs[i]? = some (.slice b ars[i].2.length c) ∧ ars[i].2.length ≤ c ∧ Rs A b (ints ars[i].2)
theorem RdA.left {A X : SP} {a : Option Addr} {kvs : List Value} {ars : List (Int × List Int)} (h : RdA A a kvs ars) : RdA (A * X) a kvs ars :=
  ⟨h.rd.left, h.len, fun i hi => by obtain ⟨b, c, e, hc, hr⟩ := h.keep i hi; exact ⟨b, c, e, hc, hr.left⟩⟩
def badA (x : Int × List Int) : Bool := decide (x.1 < 1) || lowB x.2
/-- What Arm answers, and the device behind it. -/
def armS (ars : List (Int × List Int)) (s : DevS) : Int × DevS := if s.off then (5, s) else if ars.any badA then (2, s) else if 64 < ars.length + s.arms.length then (4, s) else (0, { s with arms := s.arms ++ ars })
end Go.Vl

namespace Go.Vl
open Go Go.Proofs
theorem Size_c {A R : SP} {C : SP → SP} {d : Nat} {s : DevS} (hc : Ct A (Dev d s) R C := by repeat (first | with_reducible exact ct_here | apply ct_left)) : Fn Try.prog 34 #[.pointer (some ⟨d, 0, none⟩)] A (fun r B => r = .int .i64 ((s.ls.length : Int) * 64) ∧ A = B) := by
  obtain ⟨rfl, hC⟩ := hc
  exact fn_devR0 fun _ A bl svs av hR => Size_f A d bl s.ls.length s av hR.d hR.wf.pos hR.wf.top
/-- Lines of which the first are copied. -/
def cpB (ws : List Value) (ls : List LineS) (i : Nat) : List Value := lcs (ws ++ List.replicate (ls.length - i) (.slice none 0 0)) (ls.take i ++ List.replicate (ls.length - i) ⟨[], 0⟩)
end Go.Vl

namespace Go.Vl
open Go Go.Proofs
def stE (s : DevS) : Int := if s.off = true then 5 else 0
theorem stE_rdy (s : DevS) (h : s.off = true) : rdy s.ls.length s.off 0 0 = 5 := by unfold rdy; rw [if_pos h]
theorem Load0_c {A R : SP} {C : SP → SP} {d : Nat} {s : DevS} (hc : Ct A (Dev d s) R C) : Fn Try.prog 28 #[.pointer (some ⟨d, 0, none⟩), .int .i64 0, .int .i64 0] A (fun r B => ∃ v : Value, r = .tuple #[v, .int .i64 (stE s)] ∧ A = B) := by
  by_cases h : s.off = true
  · have e : stE s = 5 := if_pos h
    have := LoadNo_c hc (p := 0) (m := 0) (by omega) (by omega) (by rw [stE_rdy s h]; decide)
    rw [stE_rdy s h] at this
    rw [e]
    exact this.mono fun _ _ ⟨h1, h2⟩ => ⟨_, h1, h2⟩
  · have e : stE s = 0 := if_neg h
    rw [e]
    intro g w hs
    refine (Load_c hc (p := 0) (m := 0) (by simpa using h) (by omega) g w hs).mono ?_; rintro e w' ⟨v, B, rfl, ⟨a, c, rfl, _, rfl⟩, hB⟩; exact ⟨_, _, rfl, ⟨_, rfl, rfl⟩, hB.left⟩
attribute [local irreducible] crk crL crc Sl pt ro mbs sbB planT Dev
theorem alive_c {A R : SP} {C : SP → SP} {d : Nat} {s : DevS} (hc : Ct A (Dev d s) R C := by repeat (first | with_reducible exact ct_here | apply ct_left)) :
    Fn Try.prog 66 #[.pointer (some ⟨d, 0, none⟩)] (A) (fun r B => r = .int .i64 (stE s) ∧ A = B) := by
  refine fn_enterW (args := [.pointer (some ⟨d, 0, none⟩)]) Try.func66 rfl Try.ntmps66 (by simp) ?_; refine sr ?_; refine tla ?_; refine nq ?_; refine sr ?_; refine tlm ?_; refine tl_c rfl (o_call bd28 rfl (Load0_c hc)) ?_; rintro _ _ ⟨v7, rfl, rfl⟩; refine tlm ?_; refine tv (o_extract rfl rfl) ?_; refine tv (o_extract rfl rfl) ?_; refine tla ?_; refine tla ?_; refine nq ?_; refine sr ?_; refine tlm ?_; refine tla ?_; refine nq ?_; refine tc_ret ?_; exact ⟨.int .i64 (stE s), A, res1 rfl rfl, fun _ _ h => h, rfl, rfl⟩
end Go.Vl

namespace Go.Vl.Rg
open Go
/-- Of what make the frame is: a function's, or a round's. -/
class Rm where
  r : Option Nat
def Fc (μ : Rm) : Fence := { Fence.wide with round := μ.r }
/-- The blocks of the deferred calls of loops that were begun: the frame keeps them behind its last slot. -/
def blk : Value → Nat
  | .int _ i => i.toNat
  | _ => 0
def mks : Value → List Nat
  | .tuple vs => vs.toList.map blk
  | _ => []
def mkv (rs : List Nat) : Value := .tuple (rs.map fun r : Nat => Value.int .i64 (r : Int)).toArray
theorem mks_mkv (rs : List Nat) : mks (mkv rs) = rs := by
  simp only [mkv, mks, List.map_map]
  induction rs with
  | nil => rfl
  | cons r rs ih => rw [List.map_cons, ih]; rfl
def mark (r : Nat) : Deferred := { target := .collected r, args := #[] }
def mkO : Obj := .deferred (some [])
structure Agr (n : Nat) (ρ : Env) (a : Act) : Prop where
  df : a.defers = (mks (ρ n)).map mark
  sz : a.tmps.size = n
  ev : ∀ t, t < n → a.tmps.getD t undef = ρ t
def put (n : Nat) (ρ : Env) : Option Tmp → Value → Env
  | some d, v => bif Nat.blt d n then upd ρ d v else ρ
  | none, _ => ρ
theorem Agr.plain {n : Nat} {ρ : Env} {a : Act} (h : Agr n ρ a) : Vl.Agr n ρ { a with defers := [] } := ⟨rfl, h.sz, h.ev⟩
theorem Agr.eval {n : Nat} {ρ : Env} {a : Act} (h : Agr n ρ a) : a.eval = Vl.ev n ρ := by
  rw [← h.plain.eval]; rfl
theorem Agr.put {n : Nat} {ρ : Env} {a : Act} (h : Agr n ρ a) (d : Option Tmp) (v : Value) : Agr n (Rg.put n ρ d v) (a.put d v) := by
  cases d with
  | none => exact h
  | some d =>
    simp only [Rg.put]
    cases hb : Nat.blt d n with
    | true =>
      have hlt := Nat.blt_eq.mp hb
      have := h.plain.put (some d) v
      refine ⟨?_, this.sz, this.ev⟩
      have hn : Nat.beq n d = false := by
        cases hb : Nat.beq n d with
        | false => rfl
        | true => have := Nat.eq_of_beq_eq_true hb; omega
      simp only [Act.put, cond_true, upd, hn, cond_false]
      exact h.df
    | false =>
      have hge : n ≤ d := by
        rcases Nat.lt_or_ge d n with hlt | hge
        · rw [Nat.blt_eq.mpr hlt] at hb; cases hb
        · exact hge
      refine ⟨h.df, by simp [Act.put, h.sz], fun t ht => ?_⟩
      simp only [Act.put, cond_false]
      rw [← h.ev t ht, Array.getD_eq_getD_getElem?, Array.getElem?_setIfInBounds, if_neg (by omega), Array.getD_eq_getD_getElem?]
def lift (g : Gh) (n : Nat) (Q : Post) : Exit → Act → World → Prop := fun e a w => okE e = true ∧ ∃ ρ A, Agr n ρ a ∧ sat g w A ∧ Q e ρ A
def TC [μ : Rm] (P : Program) (n : Nat) (c : Code) (Q : Post) (ρ : Env) (A : SP) : Prop :=
  ∀ g a w, Agr n ρ a → sat g w A → c.wpIn (Fc μ) 0 P (lift g n Q) a w
def TL [μ : Rm] (P : Program) (n : Nat) (ops : Array Oper) (Q : Post) (l : List Oper) (ρ : Env) (A : SP) : Prop :=
  ∀ g a w, Agr n ρ a → sat g w A → wpListIn (Fc μ) 0 P ops (lift g n Q) l a w
/-- A call of yield: what it hands back, and what holds of memory behind it. -/
def Yd (P : Program) (l : Nat) (args : Array Value) (A : SP) (Q : Value → SP → Prop) : Prop :=
  ∀ g w, sat g w A → ∃ f tmps assign body, (Instr.yield l args).run P w = .ok (.round l f tmps assign body) w ∧
    RoundIn Fence.wide 0 P l f tmps assign body w fun e w' => ∃ v B, e = .returned v ∧ Q v B ∧ sat g w' B
theorem Yd.mono {P : Program} {l : Nat} {args : Array Value} {A : SP} {Q Q' : Value → SP → Prop} (h : Yd P l args A Q) (k : ∀ v B, Q v B → Q' v B) : Yd P l args A Q' := fun g w hs =>
  let ⟨f, t, a, b, hy, hr⟩ := h g w hs
  ⟨f, t, a, b, hy, hr.mono fun _ _ ⟨v, B, e, q, s⟩ => ⟨v, B, e, k v B q, s⟩⟩
theorem Yd.pre {P : Program} {l : Nat} {args : Array Value} {A A' : SP} {Q : Value → SP → Prop} (h : Yd P l args A Q) (k : ∀ g w, sat g w A' → sat g w A) : Yd P l args A' Q := fun g w hs => h g w (k g w hs)
section
variable {μ : Rm} {P : Program} {n : Nat} {Q : Post} {ρ : Env} {A : SP}
theorem tc_imp {c : Code} {Q' : Post} (h : TC P n c Q ρ A) (k : ∀ e ρ A, Q e ρ A → Q' e ρ A) : TC P n c Q' ρ A :=
  fun g a w ha hs => wpIn_mono (h g a w ha hs) fun _ _ _ ⟨o, ρ, A, x, y, z⟩ => ⟨o, ρ, A, x, y, k _ _ _ z⟩
theorem tc_pre {c : Code} {A' : SP} (k : ∀ g w, sat g w A → sat g w A') (h : TC P n c Q ρ A') : TC P n c Q ρ A :=
  fun g a w ha hs => h g a w ha (k g w hs)
theorem tc_eq {c : Code} {A' : SP} (k : A = A') (h : TC P n c Q ρ A') : TC P n c Q ρ A := k ▸ h
theorem tc_env {c : Code} {d : Nat} {v : Value} (h : ρ d = v) (k : TC P n c Q (upd ρ d v) A) : TC P n c Q ρ A := by
  rw [← env_set h] at k; exact k
theorem tc_have {c : Code} {p : Prop} (k : ∀ g w, sat g w A → p) (h : p → TC P n c Q ρ A) : TC P n c Q ρ A :=
  fun g a w ha hs => h (k g w hs) g a w ha hs
theorem tc_seq {x y : Code} (h : TC P n x (thenQ (TC P n y Q) Q) ρ A) : TC P n (x.seq y) Q ρ A := fun g a w ha hs =>
  wpIn_seq (wpIn_mono (h g a w ha hs) fun e a' w' ⟨hok, ρ', A', ha', hs', hq⟩ => by
    cases e with
    | normal => exact hq g a' w' ha' hs'
    | _ => exact ⟨hok, ρ', A', ha', hs', hq⟩)
theorem tc_skip (h : Q .normal ρ A) : TC P n .skip Q ρ A := fun g a w ha hs => wpIn_skip ⟨rfl, ρ, A, ha, hs, h⟩
theorem tc_label {l : Nat} (h : Q .normal ρ A) : TC P n (.label l) Q ρ A := fun g a w ha hs => wpIn_label ⟨rfl, ρ, A, ha, hs, h⟩
theorem tc_ret (h : Q .ret ρ A) : TC P n .ret Q ρ A := fun g a w ha hs => wpIn_ret ⟨rfl, ρ, A, ha, hs, h⟩
theorem tc_exit {id : Nat} (h : Q (.exit id) ρ A) : TC P n (.exit id) Q ρ A := fun g a w ha hs => wpIn_exit ⟨rfl, ρ, A, ha, hs, h⟩
theorem tc_block {id : Nat} {c : Code} (h : TC P n c (blockQ id Q) ρ A) : TC P n (.block id c) Q ρ A := fun g a w ha hs =>
  wpIn_block (wpIn_mono (h g a w ha hs) fun e a' w' ⟨hok, ρ', A', ha', hs', hq⟩ => by
    cases e with
    | exit k =>
      simp only [Exit.inBlock]
      by_cases hk : k = id
      · subst hk
        simp only [blockQ, Nat.beq_refl, cond_true] at hq
        rw [if_pos rfl]; exact ⟨rfl, ρ', A', ha', hs', hq⟩
      · have : Nat.beq k id = false := by
          cases hb : Nat.beq k id with
          | false => rfl
          | true => exact absurd (Nat.eq_of_beq_eq_true hb) hk
        simp only [blockQ, this, cond_false] at hq
        rw [if_neg hk]; exact ⟨rfl, ρ', A', ha', hs', hq⟩
    | _ => exact ⟨hok, ρ', A', ha', hs', hq⟩)
theorem tc_cond {c : Operand} {x y : Code} {t : Bool} (hc : ev n ρ c = .bool t) (h1 : t = true → TC P n x Q ρ A) (h2 : t = false → TC P n y Q ρ A) : TC P n (.cond c x y) Q ρ A := fun g a w ha hs => by
  refine wpIn_cond (t := t) (by rw [ha.eval]; exact hc) ?_
  cases t with
  | true => exact h1 rfl g a w ha hs
  | false => exact h2 rfl g a w ha hs
theorem tc_cond_t {c : Operand} {x y : Code} (hc : ev n ρ c = .bool true) (h : TC P n x Q ρ A) : TC P n (.cond c x y) Q ρ A := tc_cond hc (fun _ => h) (fun e => by cases e)
theorem tc_cond_f {c : Operand} {x y : Code} (hc : ev n ρ c = .bool false) (h : TC P n y Q ρ A) : TC P n (.cond c x y) Q ρ A := tc_cond hc (fun e => by cases e) (fun _ => h)
theorem tc_cut {c : Code} (M : Env → SP → Prop) (h : TC P n c (fun e ρ' A' => match e with | .normal => M ρ' A' | e => Q e ρ' A') ρ A) (k : ∀ ρ' A', M ρ' A' → Q .normal ρ' A') : TC P n c Q ρ A :=
  tc_imp h fun e ρ' A' hq => by
    cases e with
    | normal => exact k _ _ hq
    | _ => exact hq
theorem tc_loop {c : Code} (I : Nat → Env → SP → Prop) {m : Nat} (h0 : I m ρ A)
    (round : ∀ k ρ A, I k ρ A → TC P n c (thenQ (fun ρ' A' => ∃ k', k' < k ∧ I k' ρ' A') Q) ρ A) : TC P n (.loop c) Q ρ A := fun g a w ha hs b kk cs hro hb hr => by
  have key : ∀ k ρ A, I k ρ A → ∀ a w, Agr n ρ a → sat g w A → ∃ e a' w', lift g n Q e a' w' ∧ ArrivesIn (Machine.fenced P (Fc μ)) P (lone (b.atR a (.code c :: .inLoop c :: kk)) cs w) b kk cs e a' w' := by
    intro k
    induction k using Nat.strongRecOn with
    | _ k ih =>
      intro ρ A hI a w ha hs
      obtain ⟨e, a₁, w₁, ⟨hok, ρ₁, A₁, ha₁, hs₁, hq⟩, harr⟩ := round k ρ A hI g a w ha hs b (.inLoop c :: kk) cs hro hb hr
      cases e with
      | normal =>
        obtain ⟨k', hlt, hI'⟩ := hq
        obtain ⟨e₂, a₂, w₂, hq₂, harr₂⟩ := ih k' hlt ρ₁ A₁ hI' a₁ w₁ ha₁ hs₁
        exact ⟨e₂, a₂, w₂, hq₂, .of_steps (StepsIn.trans harr (.one (fenced_calm hb hr rfl) stepR_inLoop)) harr₂⟩
      | exit id => exact ⟨_, a₁, w₁, ⟨hok, ρ₁, A₁, ha₁, hs₁, hq⟩, .pass (x := .inLoop c) rfl (fun _ _ => .inl (by simp)) harr⟩
      | goto l => exact ⟨_, a₁, w₁, ⟨hok, ρ₁, A₁, ha₁, hs₁, hq⟩, .pass (x := .inLoop c) rfl (fun _ _ => .inl (by simp)) harr⟩
      | ret => exact ⟨_, a₁, w₁, ⟨hok, ρ₁, A₁, ha₁, hs₁, hq⟩, .pass (x := .inLoop c) rfl (fun _ _ => .inl (by simp)) harr⟩
      | panic ch => exact ⟨_, a₁, w₁, ⟨hok, ρ₁, A₁, ha₁, hs₁, hq⟩, .pass (x := .inLoop c) rfl (fun _ _ => .inl (by simp)) harr⟩
      | outgrown => exact ⟨_, a₁, w₁, ⟨hok, ρ₁, A₁, ha₁, hs₁, hq⟩, .pass (x := .inLoop c) rfl (fun _ _ => .inl (by simp)) harr⟩
  obtain ⟨e, a', w', hq, harr⟩ := key m ρ A h0 a w ha hs
  exact ⟨e, a', w', hq, .of_steps (.one (fenced_calm hb hr rfl) stepR_loop) harr⟩
/-! ### Operations -/
theorem want_eq {ops : Array Oper} {a : Act} {o : Oper} (ha : Agr n ρ a) : Region.wanted o (yielded ops a.tmps) = wantE n ops ρ o := by
  have := Vl.want_eq (ops := ops) (o := o) ha.plain
  exact this
theorem sem_eq {ro : Option Nat} {e : Operand → Value} {o : Oper} {w w' : World} {x : Next} (h : (execOp e o).run P w = .ok x w') (hd : ∀ d, x ≠ .defer d) : (Oper.semAt ro e o).run P w = .ok x w' := by
  cases ro with
  | none => exact h
  | some l =>
    by_cases hc : ∃ c, o.op = .defer c
    · exfalso
      obtain ⟨c, hc⟩ := hc
      unfold execOp at h
      rw [hc] at h
      simp only [] at h
      rw [Sem.run_bind] at h
      cases hr : (resolve e c o.type).run P w with
      | ok d w1 => rw [hr] at h; simp [Result.andThen, pure, Sem.run] at h; exact hd d h.1.symm
      | halt x w1 => rw [hr] at h; simp [Result.andThen] at h
    · rw [Oper.semAt_eq _ _ _ fun c e => hc ⟨c, e⟩]; exact h
section
variable {ops : Array Oper} {o : Oper} {rest : List Oper}
theorem tl_nil (h : Q .normal ρ A) : TL P n ops Q [] ρ A := fun g a w ha hs => wpListIn_nil ⟨rfl, ρ, A, ha, hs, h⟩
theorem tl_eq {A' : SP} {l : List Oper} (k : A = A') (h : TL P n ops Q l ρ A') : TL P n ops Q l ρ A := k ▸ h
theorem tl_pre {A' : SP} {l : List Oper} (k : ∀ g w, sat g w A → sat g w A') (h : TL P n ops Q l ρ A') : TL P n ops Q l ρ A := fun g a w ha hs => h g a w ha (k g w hs)
theorem tl_env {l : List Oper} {d : Nat} {v : Value} (h : ρ d = v) (k : TL P n ops Q l (upd ρ d v) A) : TL P n ops Q l ρ A := by
  rw [← env_set h] at k; exact k
theorem tl_have {l : List Oper} {p : Prop} (k : ∀ g w, sat g w A → p) (h : p → TL P n ops Q l ρ A) : TL P n ops Q l ρ A := fun g a w ha hs => h (k g w hs) g a w ha hs
theorem tl_bool {l : List Oper} {d : Nat} {b : Bool} (hv : ρ d = .bool b) (ht : b = true → TL P n ops Q l (upd ρ d (.bool true)) A) (hf : b = false → TL P n ops Q l (upd ρ d (.bool false)) A) : TL P n ops Q l ρ A := by
  cases b with
  | true => exact tl_env hv (ht rfl)
  | false => exact tl_env hv (hf rfl)
theorem tl_skip (hw : wantE n ops ρ o = false) (k : TL P n ops Q rest (put n ρ o.dst undef) A) : TL P n ops Q (o :: rest) ρ A := fun g a w ha hs => by
  unfold wpListIn
  rw [want_eq ha, hw]
  exact ⟨fun _ _ => trivial, k g _ w (ha.put _ _) hs⟩
theorem tl_v {v : Value} (hw : wantE n ops ρ o = true) (h : OpV P n ρ A o v) (k : TL P n ops Q rest (put n ρ o.dst v) A) : TL P n ops Q (o :: rest) ρ A := fun g a w ha hs => by
  unfold wpListIn
  rw [want_eq ha, hw, if_pos rfl]
  refine ⟨fun _ _ => trivial, ?_⟩
  rw [ha.eval, sem_eq (h g w hs) (by simp)]
  exact k g _ w (ha.put _ _) hs
theorem tlm {d : Nat} {ty : TypeId} {pos : String} {after : Array Edge} {gd : Option (Nat × Bool)} {x : Operand} {v : Value} (k : TL P n ops Q rest (put n ρ (some d) v) A) (h : ev n ρ x = v := by conv => lhs; whnf) (hw : wantE n ops ρ ⟨some d, .move x, ty, pos, after, gd⟩ = true := by rfl) : TL P n ops Q (⟨some d, .move x, ty, pos, after, gd⟩ :: rest) ρ A := tl_v hw (o_move h) k
theorem tla {d : Nat} {ty : TypeId} {pos : String} {after : Array Edge} {gd : Option (Nat × Bool)} {x : Operand} {v : Value} (k : TL P n ops Q rest (put n ρ (some d) v) A) (h : ev n ρ x = v := by conv => lhs; whnf) (hw : wantE n ops ρ ⟨some d, .assign x, ty, pos, after, gd⟩ = true := by rfl) : TL P n ops Q (⟨some d, .assign x, ty, pos, after, gd⟩ :: rest) ρ A := tl_v hw (o_assign h) k
theorem tl_x {R : Value → SP → Prop} (hw : wantE n ops ρ o = true) (h : OpX P n ρ A o R) (k : ∀ v B, R v B → TL P n ops Q rest (put n ρ o.dst v) B) : TL P n ops Q (o :: rest) ρ A := fun g a w ha hs => by
  unfold wpListIn
  rw [want_eq ha, hw, if_pos rfl]
  refine ⟨fun _ _ => trivial, ?_⟩
  obtain ⟨v, w', B, hr, hb, hR⟩ := h g w hs
  rw [ha.eval, sem_eq hr (by simp)]
  exact k v B hR g _ w' (ha.put _ _) hb
theorem tl_u {B : SP} (hw : wantE n ops ρ o = true) (h : OpU P n ρ A o B) (k : TL P n ops Q rest (put n ρ o.dst undef) B) : TL P n ops Q (o :: rest) ρ A := fun g a w ha hs => by
  unfold wpListIn
  rw [want_eq ha, hw, if_pos rfl]
  refine ⟨fun _ _ => trivial, ?_⟩
  obtain ⟨w', hr, hb⟩ := h g w hs
  rw [ha.eval, sem_eq hr (by simp)]
  exact k g _ w' (ha.put _ _) hb
theorem tl_c {R : Value → SP → Prop} (hw : wantE n ops ρ o = true) (h : OpC P n ρ A o R) (k : ∀ v B, R v B → TL P n ops Q rest (put n ρ o.dst v) B) : TL P n ops Q (o :: rest) ρ A := fun g a w ha hs => by
  unfold wpListIn
  rw [want_eq ha, hw, if_pos rfl]
  refine ⟨fun _ _ => trivial, ?_⟩
  obtain ⟨f, args, w', hr, hc⟩ := h g w hs
  rw [ha.eval, sem_eq hr (by simp)]
  refine ⟨fun h => (by cases h), ?_⟩
  have hc' : CallsIn Fence.wide (0 - 1) P f args w' fun e w'' => ∃ v B, e = .returned v ∧ R v B ∧ sat g w'' B := callsIn_wide.2 hc
  refine CallsIn.mono (show CallsIn (Fc μ) (0 - 1) P f args w' _ from hc') fun e w'' ⟨v, B, he, hR, hb⟩ => ?_
  subst he
  exact k v B hR g _ w'' (ha.put _ _) hb
/-- A call of yield. -/
theorem tl_y {R : Value → SP → Prop} {x : Operand} {l : Nat} {args : Array Operand} {tys : Array TypeId} {vs : List Value} {dst : Option Tmp} {ty : TypeId} {pos : String} {after : Array Edge} {gd : Option (Nat × Bool)}
    (hw : wantE n ops ρ ⟨dst, .call { callee := .value x, args := args, argTypes := tys }, ty, pos, after, gd⟩ = true) (hx : ev n ρ x = .func (.yield l) #[] #[]) (hv : args.toList.map (ev n ρ) = vs) (h : Yd P l vs.toArray A R)
    (k : ∀ v B, R v B → TL P n ops Q rest (put n ρ dst v) B) : TL P n ops Q (⟨dst, .call { callee := .value x, args := args, argTypes := tys }, ty, pos, after, gd⟩ :: rest) ρ A := fun g a w ha hs => by
  unfold wpListIn
  rw [want_eq ha, hw, if_pos rfl]
  refine ⟨fun _ _ => trivial, ?_⟩
  obtain ⟨f, tmps, assign, body, hy, hr⟩ := h g w hs
  have he : args.map (ev n ρ) = vs.toArray := Array.ext' (by rw [Array.toList_map, hv])
  have hex : (execOp (ev n ρ) ⟨dst, .call { callee := .value x, args := args, argTypes := tys }, ty, pos, after, gd⟩).run P w = .ok (.round l f tmps assign body) w := by
    simp only [execOp, resolve, hx, Deferred.ofValue, he]
    rw [run_bind (w' := w) (a := ⟨.fn (.yield l) #[], #[] ++ vs.toArray⟩) (by rfl)]
    simpa [invoke] using hy
  rw [ha.eval, sem_eq hex (by simp)]
  refine ⟨fun h => (by cases h), ?_⟩; refine RoundIn.mono (show RoundIn (Fc μ) (0 - 1) P l f tmps assign body w _ from hr) fun e w'' ⟨v, B, he, hR, hb⟩ => ?_
  subst he
  exact k v B hR g _ w'' (ha.put _ _) hb
theorem tc_reg {id : Nat} {l : List Oper} (h : TL P n l.toArray Q l ρ A) : TC P n (.region id l.toArray false) Q ρ A := fun g a w ha hs => wpIn_region_lit (h g a w ha hs)
end
end
/-! ## Functions -/
/-- The marks' blocks. -/
def Mk : List Nat → SP
  | [] => emp
  | r :: rs => Mk rs * pt r mkO
def retW (P : Program) (n : Nat) (fn : Func) (Q : Value → SP → Prop) : Post
  | .ret, ρ, A | .normal, ρ, A => ∃ rs B, mks (ρ n) = rs ∧ (∀ g w, sat g w A → sat g w (B * Mk rs)) ∧ ∃ v A', Res P n fn ρ B v ∧ (∀ g w, sat g w B → sat g w A') ∧ Q v A'
  | _, _, _ => False
theorem leaves_mk {P : Program} {fn : Func} {tmps : Array Value} {R : Ending → World → Prop} {g : Gh} {B : SP} : ∀ (rs : List Nat) (w : World), sat g w (B * Mk rs) →
    (∀ w, sat g w B → ∃ v, (results fn tmps).run P w = .ok v w ∧ R (.returned v) w) → LeavesInM Fence.wide 0 P fn tmps R (rs.map mark) .returning w
  | [], w, hs, h => h w hs.left
  | r :: rs, w, hs, h => by
    have hs' : sat g w (B * Mk rs * pt r mkO) := by rw [star_assoc]; exact hs
    have hr : w.heap[r]? = some mkO := has_here g w hs'
    refine ⟨by simp, .inl ⟨r, _, rfl, run_takeDeferred hr, leaves_mk rs _ ?_ h⟩⟩
    have hu : Upd (B * Mk rs * pt r mkO) r mkO (.deferred none) (B * Mk rs * pt r (.deferred none)) := upd_here
    have := hu.sat hs' (w' := w.putObj r (.deferred none)) (fun k => by
      by_cases hk : k = r
      · subst hk; rw [if_pos rfl]; exact World.putObj_heap_same (Array.getElem?_eq_some_iff.1 hr).1
      · rw [if_neg hk]; exact World.putObj_heap_other hk) rfl rfl rfl
    exact this.left
instance plainM : Rm := ⟨none⟩
theorem fn_enterW {P : Program} {f : FuncId} {fn : Func} {c : Code} {args : List Value} {A : SP} {Q : Value → SP → Prop} {n : Nat} (hf : P.funcs[f]? = some fn) (hb : fn.body = some c)
    (hn : fn.ntmps = n) (hle : args.length ≤ n) (h : @TC ⟨none⟩ P n c (retW P n fn Q) (argEnv und 0 args) A) : Fn P f args.toArray A Q := fun g w hs => by
  refine callsIn_wide.1 (callsIn_of_wp_marks (n := 0) hf hb trivial (wpIn_mono (h g _ w ?_ hs) ?_))
  · have hsz : (args.toArray ++ Array.replicate (fn.ntmps - args.toArray.size) undef).size = n := by simp; omega
    have key : ∀ (l : List Value) (ρ : Env) (k t : Nat), argEnv ρ k l t = if k ≤ t ∧ t < k + l.length then l.getD (t - k) undef else ρ t := by
      intro l
      induction l with
      | nil => intro ρ k t; simp only [argEnv, List.length_nil]; rw [if_neg (by omega)]
      | cons v l ih =>
        intro ρ k t
        simp only [argEnv, ih, List.length_cons]
        by_cases h1 : k + 1 ≤ t ∧ t < k + 1 + l.length
        · rw [if_pos h1, if_pos (by omega)]
          have : t - k = (t - (k + 1)) + 1 := by omega
          rw [this]; simp
        · rw [if_neg h1]
          by_cases h2 : t = k
          · subst h2
            rw [if_pos (by omega)]
            simp [upd]
          · rw [if_neg (by omega)]
            have : Nat.beq t k = false := by
              cases hb : Nat.beq t k with
              | false => rfl
              | true => exact absurd (Nat.eq_of_beq_eq_true hb) h2
            simp [upd, this]
    refine ⟨?_, hsz, fun t ht => ?_⟩
    · rw [key, if_neg (by omega)]; rfl
    · rw [key]
      rw [Array.getD_eq_getD_getElem?, Array.getElem?_append]
      by_cases h1 : t < args.length
      · rw [if_pos (by simpa using h1), if_pos (by omega)]
        simp
      · rw [if_neg (by simpa using h1), if_neg (by omega)]
        simp only [List.size_toArray] at *
        rw [Array.getElem?_replicate]
        split <;> simp [und]
  · rintro e a' w' ⟨_, ρ', A', ha', hs', hq⟩
    have fin : ∀ a' w', Agr n ρ' a' → sat g w' A' → retW P n fn Q .ret ρ' A' → LeavesInM Fence.wide 0 P fn a'.tmps (fun e w' => ∃ v B, e = .returned v ∧ Q v B ∧ sat g w' B) a'.defers .returning w' := by
      intro a' w' ha' hs' hq
      obtain ⟨rs, B, hm, hB, v, A2, hr, hi, hQ⟩ := hq
      rw [ha'.df, hm]
      exact leaves_mk rs w' (hB g w' hs') fun w hw => ⟨v, by have := hr g _ w ha'.plain hw; exact this, v, A2, rfl, hQ, hi g w hw⟩
    cases e with
    | normal => exact fin a' w' ha' hs' hq
    | ret => exact fin a' w' ha' hs' hq
    | _ => exact hq.elim
/-! ## Rounds -/
/-- A loop's record: its state, the jump that waits, the frame that it copies. -/
def Lp (l : Nat) (st : LoopState) (pe : Option Code) (n : Nat) (ρ : Env) (ps : Array Tmp) (assign body : Code) : SP :=
  ex fun r : Loop => fun h => (r.state = st ∧ r.pending = pe ∧ r.params = ps ∧ r.assign = assign ∧ r.body = body ∧ Vl.Agr n ρ { tmps := r.tmps, defers := [] }) ∧ pt l (.loop r) h
theorem lp_iff {l n : Nat} {st : LoopState} {pe : Option Code} {ρ : Env} {ps : Array Tmp} {assign body : Code} {R : SP} {g : Gh} {w : World} : sat g w (R * Lp l st pe n ρ ps assign body) ↔
    ∃ r : Loop, (r.state = st ∧ r.pending = pe ∧ r.params = ps ∧ r.assign = assign ∧ r.body = body ∧ Vl.Agr n ρ { tmps := r.tmps, defers := [] }) ∧ sat g w (R * pt l (.loop r)) := by
  constructor
  · intro hs
    obtain ⟨_, ⟨x, y, hd, rfl, ha, r, hr, hb⟩, hx⟩ := hs.hp
    exact ⟨r, hr, hs.os, hs.tape, hs.out, _, ⟨x, y, hd, rfl, ha, hb⟩, hx⟩
  · rintro ⟨r, hr, hs⟩
    exact hs.mono fun h ⟨x, y, hd, e, ha, hb⟩ => ⟨x, y, hd, e, ha, r, hr, hb⟩
theorem sat_putObj {R : SP} {l : Nat} {o o' : Obj} {g : Gh} {w : World} (hs : sat g w (R * pt l o)) : sat g (w.putObj l o') (R * pt l o') := by
  have hr : w.heap[l]? = some o := has_here g w hs
  exact (upd_here (R := R) (b := l) (o := o) (o' := o')).sat hs (w' := w.putObj l o') (fun k => by
    by_cases hk : k = l
    · subst hk; rw [if_pos rfl]; exact World.putObj_heap_same (Array.getElem?_eq_some_iff.1 hr).1
    · rw [if_neg hk]; exact World.putObj_heap_other hk) rfl rfl rfl
/-- The frame of a round: yield's arguments in the parameters. -/
def putL (n : Nat) : Env → List Tmp → List Value → Env
  | ρ, t :: ts, v :: vs => putL n (put n ρ (some t) v) ts vs
  | ρ, _, _ => ρ
theorem putL_agr {n : Nat} : ∀ (ts : List Tmp) (vs : List Value) (ρ : Env) (a : Act), Agr n ρ a → Agr n (putL n ρ ts vs) { a with tmps := (ts.zip vs).foldl (fun t (p : Tmp × Value) => t.setIfInBounds p.1 p.2) a.tmps }
  | [], _, _, a, h => by cases a; exact h
  | _ :: _, [], _, a, h => by cases a; exact h
  | t :: ts, v :: vs, ρ, a, h => putL_agr ts vs _ _ (h.put (some t) v)
/-- How a round may be left: by what its body says at its end. -/
def rndQ (l n : Nat) (ρ0 : Env) (ps : Array Tmp) (assign body : Code) (Q : Value → Option Code → SP → Prop) : Post
  | .normal, _, A => ∃ B, (∀ g w, sat g w A → sat g w (B * Lp l .busy none n ρ0 ps assign body)) ∧ Q (.bool true) none B
  | .ret, _, A => ∃ B, (∀ g w, sat g w A → sat g w (B * Lp l .busy none n ρ0 ps assign body)) ∧ Q (.bool false) (some .ret) B
  | .exit id, _, A => ∃ B, (∀ g w, sat g w A → sat g w (B * Lp l .busy none n ρ0 ps assign body)) ∧ Q (.bool false) (some (.exit id)) B
  | _, _, _ => False
def stOf : Option Code → LoopState
  | none => .ready
  | some _ => .done
/-- **A round, out of its body's walk.** -/
theorem yd_body {P : Program} {l n : Nat} {ρ : Env} {ps : Array Tmp} {assign body : Code} {A : SP} {vs : List Value} {Q : Value → Option Code → SP → Prop} (hn : vs.length = ps.size) (hm : mks (ρ n) = [])
    (h : @TC ⟨some l⟩ P n assign (fun e ρ' A' => match e with
      | .normal => ∃ B, (∀ g w, sat g w A' → sat g w (B * Lp l .ready none n ρ ps assign body)) ∧ @TC ⟨some l⟩ P n body (rndQ l n ρ ps assign body Q) ρ' (B * Lp l .busy none n ρ ps assign body)
      | _ => False) (putL n ρ ps.toList vs) (A * Lp l .ready none n ρ ps assign body)) :
    Yd P l vs.toArray (A * Lp l .ready none n ρ ps assign body) (fun v B => ∃ C j, Q v j C ∧ B = C * Lp l (stOf j) j n ρ ps assign body) := fun g w hs => by
  obtain ⟨r, ⟨h1, h2, h3, h4, h5, h6⟩, hs'⟩ := lp_iff.1 hs
  have hl : w.heap[l]? = some (.loop r) := has_here g w hs'
  refine ⟨r.fn, (r.params.zip vs.toArray).foldl (fun tmps (x : Tmp × Value) => tmps.setIfInBounds x.1 x.2) r.tmps, assign, body, ?_, ?_⟩
  · have := run_yield (P := P) (args := vs.toArray) hl (by simp [h3, hn])
    rw [h4, h5] at this; exact this
  have ha0 : Agr n ρ { tmps := r.tmps, defers := [] } := ⟨by rw [hm]; rfl, h6.sz, h6.ev⟩
  have ha := putL_agr ps.toList vs ρ _ ha0
  have e0 : ((r.params.zip vs.toArray).foldl (fun tmps (x : Tmp × Value) => tmps.setIfInBounds x.1 x.2) r.tmps) = ((ps.toList.zip vs).foldl (fun t (p : Tmp × Value) => t.setIfInBounds p.1 p.2) r.tmps) := by
    rw [h3, ← Array.foldl_toList, Array.toList_zip]
  refine roundIn_of_wpIn (F := Fence.wide) trivial ?_
  show assign.wpIn (Fc ⟨some l⟩) 0 P _ { tmps := (r.params.zip vs.toArray).foldl (fun tmps (x : Tmp × Value) => tmps.setIfInBounds x.1 x.2) r.tmps, defers := [] } w
  rw [e0]
  refine wpIn_mono (h g _ w ha hs) ?_; rintro e a1 w1 ⟨_, ρ1, A1, ha1, hs1, hq⟩
  cases e with
  | normal =>
    obtain ⟨B, hB, hbody⟩ := hq
    have hs1 := hB g w1 hs1
    obtain ⟨r1, ⟨g1, g2, g3, g4, g5, g6⟩, hs1'⟩ := lp_iff.1 hs1
    have hl1 : w1.heap[l]? = some (.loop r1) := has_here g w1 hs1'
    refine ⟨_, run_beginRound hl1 g1, ?_⟩
    have hs2 := sat_putObj (o' := .loop { r1 with state := .busy }) hs1'
    have hs3 : sat g (w1.putObj l (.loop { r1 with state := .busy })) (B * Lp l .busy none n ρ ps assign body) := lp_iff.2 ⟨{ r1 with state := .busy }, ⟨rfl, g2, g3, g4, g5, g6⟩, hs2⟩
    refine wpIn_mono (show body.wpIn (Fc ⟨some l⟩) 0 P _ a1 _ from hbody g a1 _ ha1 hs3) ?_; rintro e a3 w3 ⟨_, ρ3, A3, ha3, hs4, hq3⟩
    have fin : ∀ (jump : Option Code), (∃ C, (∀ g w, sat g w A3 → sat g w (C * Lp l .busy none n ρ ps assign body)) ∧ Q (.bool jump.isNone) jump C) →
        ∃ v w', (Instr.endRound l jump).run P w3 = .ok v w' ∧ ∃ v' B', (Ending.returned v : Ending) = .returned v' ∧ (∃ C j, Q v' j C ∧ B' = C * Lp l (stOf j) j n ρ ps assign body) ∧ sat g w' B' := by
      rintro jump ⟨C, hC, hQ⟩
      have hs4 := hC g w3 hs4
      obtain ⟨r3, ⟨k1, k2, k3, k4, k5, k6⟩, hs5⟩ := lp_iff.1 hs4
      have hl3 : w3.heap[l]? = some (.loop r3) := has_here g w3 hs5
      refine ⟨_, _, run_endRound jump hl3, _, _, rfl, ⟨C, jump, hQ, rfl⟩, ?_⟩; refine lp_iff.2 ⟨{ r3 with state := if jump.isNone then .ready else .done, pending := jump }, ⟨?_, rfl, k3, k4, k5, k6⟩, sat_putObj hs5⟩
      cases jump <;> rfl
    cases e with
    | normal => exact fin none hq3
    | ret => exact fin (some .ret) hq3
    | exit id => exact fin (some (.exit id)) hq3
    | _ => exact hq3.elim
  | _ => exact hq.elim
/-! ## The statement -/
/-- What is asked when the function that was ranged over has returned. -/
def jmpQ (Q : Post) (ρ : Env) (A : SP) : Option Code → Prop
  | none => Q .normal ρ A
  | some .ret => Q .ret ρ A
  | some (.exit id) => Q (.exit id) ρ A
  | _ => False
/-- **for .. := range g { .. }, in a function's own frame.** -/
theorem tc_range {P : Program} {n : Nat} {Q : Post} {ρ : Env} {A : SP} {x : Operand} {ps : Array Tmp} {assign body : Code} {gf : FuncId} {fs cs : List Value} (hx : ev n ρ x = .func (.func gf) fs.toArray cs.toArray) (hb : bodyB P gf = true)
    (h : ∀ r l : Nat, Fn P gf (fs ++ [Value.func (.yield l) #[] #[]] ++ cs).toArray (A * pt r mkO * Lp l .ready none n ρ ps assign body) fun _ B =>
      ∃ st j C, st ≠ .busy ∧ B = C * pt r mkO * Lp l st j n ρ ps assign body ∧ jmpQ Q (upd ρ n (mkv (r :: mks (ρ n)))) (C * pt r mkO) j) : @TC ⟨none⟩ P n (.rangeFunc x ps assign body) Q ρ A := fun g a w ha hs => by
  refine wpIn_rangeFunc fun fn _ => ?_
  obtain ⟨rec, hrec⟩ : ∃ rec : Loop, rec = { state := .ready, pending := none, fn, tmps := a.tmps, params := ps, assign, body, defers := w.heap.size } := ⟨_, rfl⟩
  obtain ⟨W1, hW1⟩ : ∃ W1, (w.alloc (.deferred (some []))).alloc (.loop rec) = W1 := ⟨_, rfl⟩
  have hs1 : sat g W1 (A * pt w.heap.size mkO * Lp (w.heap.size + 1) .ready none n ρ ps assign body) := by
    rw [← hW1]
    have hsz : (w.alloc (.deferred (some []))).heap.size = w.heap.size + 1 := by simp
    have := (hs.alloc (.deferred (some []))).alloc (.loop rec)
    rw [hsz] at this
    exact lp_iff.2 ⟨rec, by rw [hrec]; exact ⟨rfl, rfl, rfl, rfl, rfl, rfl, ha.sz, ha.ev⟩, this⟩
  refine ⟨w.heap.size + 1, [mark w.heap.size], W1, { target := .fn (.func gf) cs.toArray, args := fs.toArray ++ #[.func (.yield (w.heap.size + 1)) #[] #[]] }, W1, gf,
    (fs ++ [Value.func (.yield (w.heap.size + 1)) #[] #[]] ++ cs).toArray, W1, ?_, ?_, fun _ _ => trivial, ?_, fun h => (by cases h), ?_⟩
  · rw [← hW1, hrec]; exact run_enterLoop_outer _ _ _ _ _
  · simp only [resolve, ha.eval, hx]
    simp [Deferred.ofValue, ev, pure, bind, Sem.bind]
  · simp only [invoke]
    rw [run_callFunc hb]; simp
  · have hc := h w.heap.size (w.heap.size + 1) g W1 hs1
    refine CallsIn.mono (show CallsIn (Fc ⟨none⟩) (0 - 1) P gf _ W1 _ from callsIn_wide.2 hc) ?_; rintro e w3 ⟨v, B, rfl, ⟨st, j, C, hst, rfl, hj⟩, hs3⟩
    obtain ⟨r3, ⟨k1, k2, k3, k4, k5, k6⟩, hs5⟩ := lp_iff.1 hs3
    have hl3 : w3.heap[w.heap.size + 1]? = some (.loop r3) := has_here g w3 hs5
    refine ⟨_, _, run_endLoop hl3 (by rw [k1]; exact hst), ?_⟩
    have hs6 := (sat_putObj (o' := .loop { r3 with state := .exhausted }) hs5).left
    have ha6 : Agr n (upd ρ n (mkv (w.heap.size :: mks (ρ n)))) { a with defers := [mark w.heap.size] ++ a.defers } := by
      refine ⟨?_, ha.sz, fun t ht => ?_⟩
      · show [mark w.heap.size] ++ a.defers = _
        have : upd ρ n (mkv (w.heap.size :: mks (ρ n))) n = mkv (w.heap.size :: mks (ρ n)) := by simp [upd]
        rw [this, mks_mkv, ha.df]; rfl
      · have : Nat.beq t n = false := by
          cases hb : Nat.beq t n with
          | false => rfl
          | true => have := Nat.eq_of_beq_eq_true hb; omega
        simp only [upd, this, cond_false]; exact ha.ev t ht
    rw [k2] at hs6 ⊢
    cases j with
    | none => exact ⟨rfl, _, _, ha6, hs6, hj⟩
    | some c =>
      cases c with
      | ret => exact wpIn_ret ⟨rfl, _, _, ha6, hs6, hj⟩
      | exit id => exact wpIn_exit ⟨rfl, _, _, ha6, hs6, hj⟩
      | _ => exact hj.elim
/-! ## Iterators -/
/-- What an iterator promises: it calls yield with val 0, val 1, .. up to N of them, till a round says no. K: what it holds of memory itself; a round leaves alone whatever else there is. -/
def It (P : Program) (gf : FuncId) (fs cs : List Value) (K : SP) (N : Nat) (val : Nat → List Value) : Prop :=
  ∀ (l : Nat) (J : Nat → SP → Prop) (X : SP → Prop) (S0 : SP), J 0 S0 →
    (∀ F i S, i < N → J i S → Yd P l (val i).toArray (F * S) fun v B => ∃ (b : Bool) (S' : SP), v = .bool b ∧ (b = true → J (i + 1) S') ∧ (b = false → X S') ∧ B = F * S') →
    Fn P gf (fs ++ [Value.func (.yield l) #[] #[]] ++ cs).toArray (S0 * K) fun r B => r = .tuple #[] ∧ ((∃ S, J N S ∧ B = S * K) ∨ ∃ S, X S ∧ B = S * K)
section
variable (l n : Nat) (ρ0 : Env) (ps : Array Tmp) (assign body : Code) (F : SP)
def rndI (I1 : SP → Prop) (X : Code → SP → Prop) : Post
  | .normal, _, A => ∃ S, (∀ g w, sat g w A → sat g w (F * S)) ∧ I1 S
  | .ret, _, A => ∃ S, (∀ g w, sat g w A → sat g w (F * S)) ∧ X .ret S
  | .exit id, _, A => ∃ S, (∀ g w, sat g w A → sat g w (F * S)) ∧ X (.exit id) S
  | _, _, _ => False
def asgI (P : Program) (I1 : SP → Prop) (X : Code → SP → Prop) : Post
  | .normal, ρ, A => ∃ S, (∀ g w, sat g w A → sat g w (F * S)) ∧ ∀ F, @TC ⟨some l⟩ P n body (rndI F I1 X) ρ (F * S)
  | _, _, _ => False
end
/-- **for .. := range g { .. }, over an iterator that has its contract.** -/
theorem tc_rangeI {P : Program} {n N : Nat} {Q : Post} {ρ : Env} {A A0 K : SP} {x : Operand} {ps : Array Tmp} {assign body : Code} {gf : FuncId} {fs cs : List Value} {val : Nat → List Value} (I : Nat → SP → Prop) (X : Code → SP → Prop)
    (hx : ev n ρ x = .func (.func gf) fs.toArray cs.toArray) (hb : bodyB P gf = true) (hit : It P gf fs cs K N val) (hps : ∀ i, (val i).length = ps.size) (hm : mks (ρ n) = []) (hA : ∀ g w, sat g w A → sat g w (A0 * K)) (h0 : I 0 A0)
    (round : ∀ l F i S, i < N → I i S → @TC ⟨some l⟩ P n assign (asgI l n body F P (I (i + 1)) X) (putL n ρ ps.toList (val i)) (F * S))
    (done : ∀ r S, I N S → Q .normal (upd ρ n (mkv [r])) (S * K * pt r mkO)) (jump : ∀ r j S, X j S → jmpQ Q (upd ρ n (mkv [r])) (S * K * pt r mkO) (some j)) : @TC ⟨none⟩ P n (.rangeFunc x ps assign body) Q ρ A := by
  refine tc_pre hA (tc_range hx hb fun r l => ?_)
  rw [hm]
  have hY := hit l (fun i S => ∃ S1, S = S1 * pt r mkO * Lp l .ready none n ρ ps assign body ∧ I i S1) (fun S => ∃ j S1, S = S1 * pt r mkO * Lp l .done (some j) n ρ ps assign body ∧ X j S1) _ ⟨A0, rfl, h0⟩ ?_
  · refine Fn.mono (hY.pre fun _ _ h => (show A0 * K * pt r mkO * Lp l .ready none n ρ ps assign body = A0 * pt r mkO * Lp l .ready none n ρ ps assign body * K by ac_rfl) ▸ h) ?_
    rintro v B ⟨_, ⟨_, ⟨S1, rfl, hI⟩, rfl⟩ | ⟨_, ⟨j, S1, rfl, hX⟩, rfl⟩⟩
    · exact ⟨.ready, none, S1 * K, by simp, by ac_rfl, done r S1 hI⟩
    · exact ⟨.done, some j, S1 * K, by simp, by ac_rfl, jump r j S1 hX⟩
  · rintro F i _ hi ⟨S1, rfl, hI⟩
    have e1 : ∀ (S L : SP), F * S * pt r mkO * L = F * pt r mkO * L * S := fun S L => by ac_rfl
    have hb := yd_body (P := P) (l := l) (n := n) (ρ := ρ) (ps := ps) (assign := assign) (body := body) (A := F * S1 * pt r mkO) (vs := val i)
      (Q := fun v j C => ∃ S2, C = F * S2 * pt r mkO ∧ ((j = none ∧ v = .bool true ∧ I (i + 1) S2) ∨ ∃ c, j = some c ∧ v = .bool false ∧ X c S2)) (hps i) hm
      (by
        rw [e1]
        refine tc_imp (round l (F * pt r mkO * Lp l .ready none n ρ ps assign body) i S1 hi hI) fun e ρ' A' hq => ?_
        cases e with
        | normal =>
          obtain ⟨S, hS, hbody⟩ := hq
          refine ⟨F * S * pt r mkO, fun g w h => by rw [e1]; exact hS g w h, ?_⟩
          rw [e1]
          refine tc_imp (hbody (F * pt r mkO * Lp l .busy none n ρ ps assign body)) fun e ρ2 A2 hq => ?_
          cases e with
          | normal => obtain ⟨S2, h2, hI2⟩ := hq; exact ⟨F * S2 * pt r mkO, fun g w h => by rw [e1]; exact h2 g w h, S2, rfl, .inl ⟨rfl, rfl, hI2⟩⟩
          | ret => obtain ⟨S2, h2, hI2⟩ := hq; exact ⟨F * S2 * pt r mkO, fun g w h => by rw [e1]; exact h2 g w h, S2, rfl, .inr ⟨_, rfl, rfl, hI2⟩⟩
          | exit id => obtain ⟨S2, h2, hI2⟩ := hq; exact ⟨F * S2 * pt r mkO, fun g w h => by rw [e1]; exact h2 g w h, S2, rfl, .inr ⟨_, rfl, rfl, hI2⟩⟩
          | _ => exact hq.elim
        | _ => exact hq.elim)
    refine (hb.pre fun _ _ h => (show F * (S1 * pt r mkO * Lp l .ready none n ρ ps assign body) = F * S1 * pt r mkO * Lp l .ready none n ρ ps assign body by ac_rfl) ▸ h).mono ?_; rintro v B ⟨C, j, ⟨S2, rfl, ⟨rfl, rfl, hI2⟩ | ⟨c, rfl, rfl, hX⟩⟩, rfl⟩
    · exact ⟨true, _, rfl, fun _ => ⟨S2, rfl, hI2⟩, fun e => (by cases e), by show _ = F * (S2 * pt r mkO * Lp l (stOf none) none n ρ ps assign body); ac_rfl⟩
    · exact ⟨false, _, rfl, fun e => (by cases e), fun _ => ⟨c, S2, rfl, hX⟩, by show _ = F * (S2 * pt r mkO * Lp l (stOf (some c)) (some c) n ρ ps assign body); ac_rfl⟩
/-- What a round of the caller's does, in the iterator's own order of things. -/
theorem yd_b {P : Program} {l : Nat} {args : Array Value} {J X : SP → Prop} {F S A' : SP} {G : SP → SP} (h : Yd P l args (F * S) fun v B => ∃ (b : Bool) (S' : SP), v = .bool b ∧ (b = true → J S') ∧ (b = false → X S') ∧ B = F * S') (hA : A' = F * S) (hk : ∀ S : SP, F * S = G S) :
    Yd P l args A' fun v B => ∃ (b : Bool) (S' : SP), v = .bool b ∧ (b = true → J S') ∧ (b = false → X S') ∧ B = G S' := by
  subst hA
  refine h.mono fun v B ⟨b, S', e1, e2, e3, e4⟩ => ⟨b, S', e1, e2, e3, ?_⟩
  rw [e4, hk]
theorem jmp_r {Q : Post} {ρ : Env} {A : SP} (h : Q .ret ρ A) : jmpQ Q ρ A (some .ret) := h
theorem mk1 {B : SP} {r : Nat} {g : Gh} {w : World} (h : sat g w (B * pt r mkO)) : sat g w (B * Mk [r]) := by
  show sat g w (B * (emp * pt r mkO)); rw [emp_star]; exact h
theorem mk0 {B : SP} {g : Gh} {w : World} (h : sat g w B) : sat g w (B * Mk []) := by
  show sat g w (B * emp); rw [star_emp]; exact h
end Go.Vl.Rg

namespace Go.Vl
open Go Go.Proofs
theorem star3 (S a b c : SP) : S * (a * b * c) = S * a * b * c := by rw [← star_assoc, ← star_assoc]
theorem star2' (S a b : SP) : S * (a * b) = S * a * b := (star_assoc _ _ _).symm
attribute [local irreducible] Sl pt ro Dev imgS
namespace Rg
theorem units1_f {at_ n l N b1 b2 b3 : Nat} {J : Nat → SP → Prop} {X : SP → Prop} {S0 : SP} (h1 : 1 ≤ n) (h2 : at_ + n ≤ 9223372036854775807) (hN : N = ((at_ + n - 1) / 8 - at_ / 8 + 1)) (h0 : J 0 S0) (hY : ∀ F i S, i < N → J i S → Yd Try.prog l #[.int .i64 ((at_ / 8 + i : Nat) : Int)] (F * S) (fun v B => ∃ (b : Bool) (S' : SP), v = .bool b ∧ (b = true → J (i + 1) S') ∧ (b = false → X S') ∧ B = F * S')) :
    Fn Try.prog 101 #[.func (.yield l) #[] #[], .pointer (some ⟨b1, 0, none⟩), .pointer (some ⟨b2, 0, none⟩), .pointer (some ⟨b3, 0, none⟩)] (S0 * pt b1 (cl [.int .i64 (at_ : Int)] 3) * pt b2 (cl [.int .i64 (n : Int)] 3) * pt b3 (cl [.int .i64 8] 3)) (fun r B => r = .tuple #[] ∧ ((∃ S, J N S ∧ B = S * pt b1 (cl [.int .i64 (at_ : Int)] 3) * pt b2 (cl [.int .i64 (n : Int)] 3) * pt b3 (cl [.int .i64 8] 3)) ∨ ∃ S, X S ∧ B = S * pt b1 (cl [.int .i64 (at_ : Int)] 3) * pt b2 (cl [.int .i64 (n : Int)] 3) * pt b3 (cl [.int .i64 8] 3))) := by
  refine fn_enterW (args := [.func (.yield l) #[] #[], .pointer (some ⟨b1, 0, none⟩), .pointer (some ⟨b2, 0, none⟩), .pointer (some ⟨b3, 0, none⟩)]) Try.func101 rfl Try.ntmps101 (by simp) ?_; refine tc_seq ?_; refine tc_seq ?_; refine tc_reg ?_; refine tl_v rfl (by first | exact o_load p3 rfl (by repeat (first | with_reducible exact has_here | with_reducible exact has_pt | apply has_left)) rfl | exact o_loadC p3 rfl (by assumption)) ?_; refine tl_v rfl (o_lss rfl rfl) ?_; refine tlm ?_; refine tl_bool (d := 8) rfl (fun h => ?_) (fun h => ?_)
  · (exfalso; first | (revert h; simp; done) | (simp at h; done) | (revert h; simp; omega) | (simp at h; omega) | omega)
  · try simp only [lv1, lv2, lv3, lv4, lv5, lv6, Bool.not_true, Bool.not_false] at h
    refine tl_v rfl (by first | exact o_load p3 rfl (by repeat (first | with_reducible exact has_here | with_reducible exact has_pt | apply has_left)) rfl | exact o_loadC p3 rfl (by assumption)) ?_; refine tl_v rfl (o_lss rfl rfl) ?_; refine tl_v rfl (o_pick_f rfl (by conv => lhs; whnf)) ?_; refine tlm ?_; refine tl_bool (d := 12) rfl (fun h => ?_) (fun h => ?_)
    · (exfalso; first | (revert h; simp; done) | (simp at h; done) | (revert h; simp; omega) | (simp at h; omega) | omega)
    · try simp only [lv1, lv2, lv3, lv4, lv5, lv6, Bool.not_true, Bool.not_false] at h
      refine tl_v rfl (by first | exact o_load p3 rfl (by repeat (first | with_reducible exact has_here | with_reducible exact has_pt | apply has_left)) rfl | exact o_loadC p3 rfl (by assumption)) ?_; refine tl_v rfl (by first | exact o_load p3 rfl (by repeat (first | with_reducible exact has_here | with_reducible exact has_pt | apply has_left)) rfl | exact o_loadC p3 rfl (by assumption)) ?_; refine tl_v rfl (by first | exact o_subI rfl rfl (by omega) | exact o_sub rfl rfl) ?_; refine tl_v rfl (o_gtr rfl rfl) ?_; refine tl_v rfl (o_pick_f rfl (by conv => lhs; whnf)) ?_; refine tl_nil ?_; refine q_then_n ?_; refine tc_cond rfl (fun h => ?_) (fun h => ?_)
      · (exfalso; first | (revert h; simp; done) | (simp at h; done) | (revert h; simp; omega) | (simp at h; omega) | omega)
      · try simp only [lv1, lv2, lv3, lv4, lv5, lv6, Bool.not_true, Bool.not_false] at h
        refine tc_skip ?_; refine q_then_n ?_; refine tc_seq ?_; refine tc_reg ?_; refine tl_v rfl (by first | exact o_load p3 rfl (by repeat (first | with_reducible exact has_here | with_reducible exact has_pt | apply has_left)) rfl | exact o_loadC p3 rfl (by assumption)) ?_; refine tl_v rfl (by first | exact o_load p3 rfl (by repeat (first | with_reducible exact has_here | with_reducible exact has_pt | apply has_left)) rfl | exact o_loadC p3 rfl (by assumption)) ?_; refine tl_v rfl (o_quoN (b := 8) rfl rfl (by omega)) ?_; refine tla ?_; refine tl_nil ?_; refine q_then_n ?_; refine tc_block ?_; refine tc_loop (fun kk ρ BB => ∃ (k : Nat) (S : SP), (k ≤ N) ∧ (J k S) ∧ kk = N - k ∧ ρ 5 = .int .i64 ((at_ / 8 + k : Nat) : Int) ∧ ρ 35 = undef ∧ ρ 0 = .func (.yield l) #[] #[] ∧ ρ 1 = .pointer (some ⟨b1, 0, none⟩) ∧ ρ 2 = .pointer (some ⟨b2, 0, none⟩) ∧ ρ 3 = .pointer (some ⟨b3, 0, none⟩) ∧ BB = S * pt b1 (cl [.int .i64 (at_ : Int)] 3) * pt b2 (cl [.int .i64 (n : Int)] 3) * pt b3 (cl [.int .i64 8] 3)) (m := N - (0)) ?_ ?_
        · exact ⟨0, S0, by omega, h0, rfl, rfl, rfl, rfl, rfl, rfl, rfl, rfl⟩
        · intro k ρ B hI
          obtain ⟨k, S, hp0, hp1, hkk1, hE5, hE35, hE0, hE1, hE2, hE3, rfl⟩ := hI
          refine tc_env (d := 5) hE5 ?_; refine tc_env (d := 35) hE35 ?_; refine tc_env (d := 0) hE0 ?_; refine tc_env (d := 1) hE1 ?_; refine tc_env (d := 2) hE2 ?_; refine tc_env (d := 3) hE3 ?_
          clear hE5 hE35 hE0 hE1 hE2 hE3
          refine tc_seq ?_; refine tc_seq ?_; refine tc_reg ?_; refine tlm ?_; refine tl_v rfl (by first | exact o_load p3 rfl (by repeat (first | with_reducible exact has_here | with_reducible exact has_pt | apply has_left)) rfl | exact o_loadC p3 rfl (by assumption)) ?_; refine tl_v rfl (by first | exact o_load p3 rfl (by repeat (first | with_reducible exact has_here | with_reducible exact has_pt | apply has_left)) rfl | exact o_loadC p3 rfl (by assumption)) ?_; refine tl_v rfl (by first | exact o_addI rfl rfl (by omega) | exact o_add rfl rfl) ?_; refine tl_v rfl (by first | exact o_subI rfl rfl (by omega) | exact o_sub rfl rfl) ?_; refine tl_v rfl (by first | exact o_load p3 rfl (by repeat (first | with_reducible exact has_here | with_reducible exact has_pt | apply has_left)) rfl | exact o_loadC p3 rfl (by assumption)) ?_; refine tl_v rfl (o_quoI rfl rfl (by omega)) ?_; refine tl_v rfl (o_leq rfl rfl) ?_; refine tl_nil ?_; refine q_then_n ?_; refine tc_cond rfl (fun h => ?_) (fun h => ?_)
          · try simp only [lv1, lv2, lv3, lv4, lv5, lv6, Bool.not_true, Bool.not_false] at h
            refine tc_skip ?_; refine q_then_n ?_; refine tc_seq ?_; refine tc_block ?_; refine tc_seq ?_; refine tc_reg ?_; refine tlm ?_; refine tlm ?_; refine tl_y rfl rfl rfl (yd_b (F := pt b1 (cl [.int .i64 (at_ : Int)] 3) * pt b2 (cl [.int .i64 (n : Int)] 3) * pt b3 (cl [.int .i64 8] 3)) (G := fun S' => S' * pt b1 (cl [.int .i64 (at_ : Int)] 3) * pt b2 (cl [.int .i64 (n : Int)] 3) * pt b3 (cl [.int .i64 8] 3)) (hY _ k S (by omega) hp1) (by ac_rfl) (fun S' => by ac_rfl)) ?_; rintro _ _ ⟨b33, S2, rfl, hT, hF, rfl⟩; refine tl_v rfl (o_not rfl) ?_; refine tl_nil ?_; refine q_then_n ?_; refine tc_cond rfl (fun h => ?_) (fun h => ?_)
            · have hb : b33 = false := by simpa using h
              subst hb
              refine tc_ret ?_; refine q_block_r (q_then_r (q_then_r (q_block_r ?_))); exact ⟨[], _, rfl, fun _ _ h => mk0 h, .tuple #[], S2 * pt b1 (cl [.int .i64 (at_ : Int)] 3) * pt b2 (cl [.int .i64 (n : Int)] 3) * pt b3 (cl [.int .i64 8] 3), res0 rfl, fun _ _ h => h, rfl, .inr ⟨S2, hF rfl, rfl⟩⟩
            · have hb : b33 = true := by simpa using h
              subst hb
              refine tc_skip ?_; refine q_block_n (q_then_n ?_); refine tc_reg ?_; refine tlm ?_; refine tl_v rfl (by first | exact o_addI rfl rfl (by omega) | exact o_add rfl rfl) ?_; refine tla ?_; refine tl_nil ?_; refine q_then_n ?_; exact ⟨_, by omega, k + 1, _, by omega, hT rfl, rfl, rfl, rfl, rfl, rfl, rfl, rfl, rfl⟩
          · try simp only [lv1, lv2, lv3, lv4, lv5, lv6, Bool.not_true, Bool.not_false] at h
            refine tc_exit ?_; refine q_then_e (q_then_e (q_block_x ?_))
            obtain rfl : k = N := by omega
            exact ⟨[], _, rfl, fun _ _ h => mk0 h, .tuple #[], S * pt b1 (cl [.int .i64 (at_ : Int)] 3) * pt b2 (cl [.int .i64 (n : Int)] 3) * pt b3 (cl [.int .i64 8] 3), res0 rfl, fun _ _ h => h, rfl, .inl ⟨S, hp1, rfl⟩⟩
end Rg
theorem units_it {at_ n N b1 b2 b3 : Nat} (h1 : 1 ≤ n) (h2 : at_ + n ≤ 9223372036854775807) (hN : N = ((at_ + n - 1) / 8 - at_ / 8 + 1)) :
    Rg.It Try.prog 101 [] [.pointer (some ⟨b1, 0, none⟩), .pointer (some ⟨b2, 0, none⟩), .pointer (some ⟨b3, 0, none⟩)] (pt b1 (cl [.int .i64 (at_ : Int)] 3) * pt b2 (cl [.int .i64 (n : Int)] 3) * pt b3 (cl [.int .i64 8] 3)) N (fun i => [.int .i64 ((at_ / 8 + i : Nat) : Int)]) := fun l J X S0 h0 hY => by
  have hk : ∀ S : SP, S * (pt b1 (cl [.int .i64 (at_ : Int)] 3) * pt b2 (cl [.int .i64 (n : Int)] 3) * pt b3 (cl [.int .i64 8] 3)) = S * pt b1 (cl [.int .i64 (at_ : Int)] 3) * pt b2 (cl [.int .i64 (n : Int)] 3) * pt b3 (cl [.int .i64 8] 3) := fun S => star3 _ _ _ _
  rw [hk S0]
  refine (Rg.units1_f (J := J) (X := X) h1 h2 hN h0 hY).mono ?_; rintro v B ⟨rfl, ⟨S, hS, rfl⟩ | ⟨S, hS, rfl⟩⟩
  · exact ⟨rfl, .inl ⟨S, hS, (hk S).symm⟩⟩
  · exact ⟨rfl, .inr ⟨S, hS, (hk S).symm⟩⟩
theorem units_c {A : SP} {at_ n : Nat} :
    Fn Try.prog 100 #[.int .i64 (at_ : Nat), .int .i64 (n : Nat), .int .i64 8] (A) (fun r B => ∃ b1 b2 b3, r = .func (.func 101) #[] #[.pointer (some ⟨b1, 0, none⟩), .pointer (some ⟨b2, 0, none⟩), .pointer (some ⟨b3, 0, none⟩)] ∧ B = A * (pt b1 (cl [.int .i64 (at_ : Int)] 3) * pt b2 (cl [.int .i64 (n : Int)] 3) * pt b3 (cl [.int .i64 8] 3))) := by
  refine fn_enterW (args := [.int .i64 (at_ : Nat), .int .i64 (n : Nat), .int .i64 8]) Try.func100 rfl Try.ntmps100 (by simp) ?_; refine sr ?_; refine tl_x rfl (o_box rfl rfl) ?_; rintro _ _ ⟨b3, rfl, rfl⟩; refine tl_x rfl (o_box rfl rfl) ?_; rintro _ _ ⟨b4, rfl, rfl⟩; refine tl_x rfl (o_box rfl rfl) ?_; rintro _ _ ⟨b5, rfl, rfl⟩; refine tla ?_; refine nq ?_; refine sr ?_; refine tv (o_makeFunc rfl rfl) ?_; refine tla ?_; refine nq ?_; refine tc_ret ?_; exact ⟨_, _, res1 rfl rfl, fun _ _ h => h, b3, b4, b5, rfl, (star3 _ _ _ _).symm⟩
theorem Words_c {A : SP} {at_ n : Nat} :
    Fn Try.prog 98 #[.int .i64 (at_ : Nat), .int .i64 (n : Nat)] (A) (fun r B => ∃ b1 b2 b3, r = .func (.func 101) #[] #[.pointer (some ⟨b1, 0, none⟩), .pointer (some ⟨b2, 0, none⟩), .pointer (some ⟨b3, 0, none⟩)] ∧ B = A * (pt b1 (cl [.int .i64 (at_ : Int)] 3) * pt b2 (cl [.int .i64 (n : Int)] 3) * pt b3 (cl [.int .i64 8] 3))) := by
  refine fn_enterW (args := [.int .i64 (at_ : Nat), .int .i64 (n : Nat)]) Try.func98 rfl Try.ntmps98 (by simp) ?_; refine sr ?_; refine tla ?_; refine nq ?_; refine sr ?_; refine tlm ?_; refine tlm ?_; refine tl_c rfl (o_call bd100 rfl (units_c)) ?_; rintro _ _ ⟨b17, b27, b37, rfl, rfl⟩; refine tla ?_; refine nq ?_; refine tc_ret ?_; exact ⟨_, _, res1 rfl rfl, fun _ _ h => h, b17, b27, b37, rfl, rfl⟩
namespace Rg
theorem Lines1_f {at_ n l0 N b1 b2 : Nat} {J : Nat → SP → Prop} {X : SP → Prop} {S0 : SP} (h1 : 1 ≤ n) (h2 : at_ + n ≤ 9223372036854775807) (hN : N = (at_ + n - 1) / 64 - at_ / 64 + 1) (h0 : J 0 S0) (hY : ∀ F i S, i < N → J i S → Yd Try.prog l0 #[.int .i64 ((at_ / 64 + i : Nat) : Int)] (F * S) (fun v B => ∃ (b : Bool) (S' : SP), v = .bool b ∧ (b = true → J (i + 1) S') ∧ (b = false → X S') ∧ B = F * S')) :
    Fn Try.prog 97 #[.func (.yield l0) #[] #[], .pointer (some ⟨b1, 0, none⟩), .pointer (some ⟨b2, 0, none⟩)] (S0 * pt b1 (cl [.int .i64 (at_ : Int)] 3) * pt b2 (cl [.int .i64 (n : Int)] 3)) (fun r B => r = .tuple #[] ∧ ((∃ S, J N S ∧ B = S * pt b1 (cl [.int .i64 (at_ : Int)] 3) * pt b2 (cl [.int .i64 (n : Int)] 3)) ∨ ∃ S, X S ∧ B = S * pt b1 (cl [.int .i64 (at_ : Int)] 3) * pt b2 (cl [.int .i64 (n : Int)] 3))) := by
  refine fn_enterW (args := [.func (.yield l0) #[] #[], .pointer (some ⟨b1, 0, none⟩), .pointer (some ⟨b2, 0, none⟩)]) Try.func97 rfl Try.ntmps97 (by simp) ?_; refine tc_seq ?_; refine tc_reg ?_; refine tl_x rfl (o_box rfl rfl) ?_; rintro _ _ ⟨b3, rfl, rfl⟩; refine tl_nil ?_; refine q_then_n ?_; refine tc_seq ?_; refine tc_reg ?_; refine tl_x rfl (o_alloc z3 rfl) ?_; rintro _ _ ⟨b4, rfl, rfl⟩; refine tl_u rfl (o_stU rfl (by repeat (first | with_reducible exact upd_here | with_reducible exact upd_pt | apply upd_left)) sz3 rfl rfl (by first | decide | simp | omega) rfl) ?_; refine tl_nil ?_; refine q_then_n ?_; refine tc_seq ?_; refine tc_reg ?_; refine tl_v rfl (by first | exact o_load p3 rfl (by repeat (first | with_reducible exact has_here | with_reducible exact has_pt | apply has_left)) rfl | exact o_loadC p3 rfl (by assumption)) ?_; refine tl_v rfl (by first | exact o_load p3 rfl (by repeat (first | with_reducible exact has_here | with_reducible exact has_pt | apply has_left)) rfl | exact o_loadC p3 rfl (by assumption)) ?_; refine tl_c rfl (o_call bd98 rfl (Words_c)) ?_; rintro _ _ ⟨w1, w2, w3, rfl, rfl⟩; refine tl_nil ?_; refine q_then_n ?_; refine tc_block ?_; refine tc_rangeI (K := (pt w1 (cl [.int .i64 (at_ : Int)] 3) * pt w2 (cl [.int .i64 (n : Int)] 3) * pt w3 (cl [.int .i64 8] 3))) (N := ((at_ + n - 1) / 8 - at_ / 8 + 1)) (A0 := S0 * pt b1 (cl [.int .i64 (at_ : Int)] 3) * pt b2 (cl [.int .i64 (n : Int)] 3) * pt b3 (cl [.func (.yield l0) #[] #[]] 98) * pt b4 (cl [.int .i64 (-1)] 3)) (fun i S => ∃ (S1 : SP) (c : Nat) (ws : Int), (J c S1) ∧ ((i = 0 ∧ c = 0 ∧ ws = -1) ∨ (0 < i ∧ ws = (((at_ / 8 + i - 1) / 8 : Nat) : Int) ∧ c = (at_ / 8 + i - 1) / 8 - at_ / 64 + 1)) ∧ S = S1 * pt b1 (cl [.int .i64 (at_ : Int)] 3) * pt b2 (cl [.int .i64 (n : Int)] 3) * pt b3 (cl [.func (.yield l0) #[] #[]] 98) * pt b4 (cl [.int .i64 ws] 3)) (fun j S => ∃ (S1 : SP) (ws : Int), j = .ret ∧ (X S1) ∧ S = S1 * pt b1 (cl [.int .i64 (at_ : Int)] 3) * pt b2 (cl [.int .i64 (n : Int)] 3) * pt b3 (cl [.func (.yield l0) #[] #[]] 98) * pt b4 (cl [.int .i64 ws] 3)) rfl bd101 (units_it (N := ((at_ + n - 1) / 8 - at_ / 8 + 1)) h1 h2 rfl) (fun _ => rfl) rfl (Dr.sat (by repeat (first | with_reducible exact dr_refl | apply dr_keep | apply dr_drop))) (⟨S0, 0, -1, h0, by omega, rfl⟩) ?_ ?_ ?_
  · intro l F i S hi hI
    obtain ⟨S1, c, ws, hi0, hi1, rfl⟩ := hI
    refine tc_eq (by simp only [← star_assoc]; rfl) ?_
    have hcN : (at_ / 8 + i) / 8 - at_ / 64 < N := by omega
    refine tc_env (d := 10) (v := .int .i64 ((at_ / 8 + i : Nat) : Int)) (rfl) ?_; refine tc_reg ?_; refine tla ?_; refine tl_nil ?_; refine ⟨S1 * pt b1 (cl [.int .i64 (at_ : Int)] 3) * pt b2 (cl [.int .i64 (n : Int)] 3) * pt b3 (cl [.func (.yield l0) #[] #[]] 98) * pt b4 (cl [.int .i64 ws] 3), fun g w h => by simp only [← star_assoc]; exact Dr.sat (by repeat (first | with_reducible exact dr_refl | apply dr_keep | apply dr_drop)) g w h, fun F => ?_⟩; refine tc_eq (by simp only [← star_assoc]; rfl) ?_; refine tc_block ?_; refine tc_seq ?_; refine tc_reg ?_; refine tlm ?_; refine tl_v rfl (o_quoN (b := 8) rfl rfl (by omega)) ?_; refine tla ?_; refine tl_nil ?_; refine q_then_n ?_; refine tc_seq ?_; refine tc_seq ?_; refine tc_reg ?_; refine tlm ?_; refine tl_v rfl (by first | exact o_load p3 rfl (by repeat (first | with_reducible exact has_here | with_reducible exact has_pt | apply has_left)) rfl | exact o_loadC p3 rfl (by assumption)) ?_; refine tl_v rfl (o_nei rfl rfl) ?_; refine tlm ?_; refine tl_bool (d := 16) rfl (fun h => ?_) (fun h => ?_)
    · have hne : (at_ / 8 + i) / 8 = at_ / 64 + c := by simp at h; omega
      refine tl_v rfl (by first | exact o_load p98 rfl (by repeat (first | with_reducible exact has_here | with_reducible exact has_pt | apply has_left)) rfl | exact o_loadC p98 rfl (by assumption)) ?_; refine tlm ?_; refine tl_env (d := 18) (v := .int .i64 ((at_ / 64 + c : Nat) : Int)) (congrArg (fun z : Nat => Value.int .i64 (z : Int)) hne) ?_; refine tl_y rfl rfl rfl (yd_b (F := F * pt b1 (cl [.int .i64 (at_ : Int)] 3) * pt b2 (cl [.int .i64 (n : Int)] 3) * pt b3 (cl [.func (.yield l0) #[] #[]] 98) * pt b4 (cl [.int .i64 ws] 3)) (G := fun S' => F * S' * pt b1 (cl [.int .i64 (at_ : Int)] 3) * pt b2 (cl [.int .i64 (n : Int)] 3) * pt b3 (cl [.func (.yield l0) #[] #[]] 98) * pt b4 (cl [.int .i64 ws] 3)) (S := S1) (hY _ c S1 (by omega) hi0) (by ac_rfl) (fun S' => by ac_rfl)) ?_; rintro _ _ ⟨b19, S2, rfl, hT, hF, rfl⟩; refine tl_v rfl (o_not rfl) ?_; refine tl_v rfl (o_pick_t rfl (by conv => lhs; whnf)) ?_; refine tl_nil ?_; refine q_then_n ?_; refine tc_cond rfl (fun h => ?_) (fun h => ?_)
      · have hb : b19 = false := by simpa using h
        subst hb
        refine tc_ret ?_; refine q_then_r (q_block_r ?_); exact ⟨(S2) * pt b1 (cl [.int .i64 (at_ : Int)] 3) * pt b2 (cl [.int .i64 (n : Int)] 3) * pt b3 (cl [.func (.yield l0) #[] #[]] 98) * pt b4 (cl [.int .i64 (ws)] 3), fun g w h => by simp only [← star_assoc]; exact Dr.sat (by repeat (first | with_reducible exact dr_refl | apply dr_keep | apply dr_drop)) g w h, S2, ws, rfl, hF rfl, rfl⟩
      · have hb : b19 = true := by simpa using h
        subst hb
        refine tc_skip ?_; refine q_then_n ?_
        try rw [← hne]
        refine tc_reg ?_; refine tlm ?_; refine tl_u rfl (o_stU rfl (by repeat (first | with_reducible exact upd_here | with_reducible exact upd_pt | apply upd_left)) sz3 rfl rfl (by first | decide | simp | omega) rfl) ?_; refine tl_nil ?_; refine q_block_n ?_; exact ⟨(S2) * pt b1 (cl [.int .i64 (at_ : Int)] 3) * pt b2 (cl [.int .i64 (n : Int)] 3) * pt b3 (cl [.func (.yield l0) #[] #[]] 98) * pt b4 (cl [.int .i64 ((((at_ / 8 + i) / 8 : Nat) : Int))] 3), fun g w h => by simp only [← star_assoc]; exact Dr.sat (by repeat (first | with_reducible exact dr_refl | apply dr_keep | apply dr_drop)) g w h, S2, c + 1, (((at_ / 8 + i) / 8 : Nat) : Int), hT rfl, by omega, rfl⟩
    · have hne : (((at_ / 8 + i) / 8 : Nat) : Int) = ws := by simpa using h
      refine tl_skip rfl ?_; refine tl_skip rfl ?_; refine tl_skip rfl ?_; refine tl_skip rfl ?_; refine tl_v rfl (o_pick_f rfl (by conv => lhs; whnf)) ?_; refine tl_nil ?_; refine q_then_n ?_; refine tc_cond_f rfl ?_; refine tc_skip ?_; refine q_then_n ?_
      try rw [← hne]
      refine tc_reg ?_; refine tlm ?_; refine tl_u rfl (o_stU rfl (by repeat (first | with_reducible exact upd_here | with_reducible exact upd_pt | apply upd_left)) sz3 rfl rfl (by first | decide | simp | omega) rfl) ?_; refine tl_nil ?_; refine q_block_n ?_; exact ⟨(S1) * pt b1 (cl [.int .i64 (at_ : Int)] 3) * pt b2 (cl [.int .i64 (n : Int)] 3) * pt b3 (cl [.func (.yield l0) #[] #[]] 98) * pt b4 (cl [.int .i64 ((((at_ / 8 + i) / 8 : Nat) : Int))] 3), fun g w h => by simp only [← star_assoc]; exact Dr.sat (by repeat (first | with_reducible exact dr_refl | apply dr_keep | apply dr_drop)) g w h, S1, c, (((at_ / 8 + i) / 8 : Nat) : Int), hi0, by omega, rfl⟩
  · intro r S hI
    obtain ⟨S1, c, ws, hi0, hi1, rfl⟩ := hI
    refine q_block_n ?_
    obtain rfl : c = N := by omega
    exact ⟨[r], S1 * pt b1 (cl [.int .i64 (at_ : Int)] 3) * pt b2 (cl [.int .i64 (n : Int)] 3), rfl, fun _ _ h => mk1 (Dr.sat (A' := S1 * pt b1 (cl [.int .i64 (at_ : Int)] 3) * pt b2 (cl [.int .i64 (n : Int)] 3) * pt r mkO) (by repeat (first | with_reducible exact dr_refl | apply dr_keep | apply dr_drop)) _ _ h), .tuple #[], S1 * pt b1 (cl [.int .i64 (at_ : Int)] 3) * pt b2 (cl [.int .i64 (n : Int)] 3), res0 rfl, fun _ _ h => h, rfl, .inl ⟨S1, hi0, rfl⟩⟩
  · intro r j S hX
    obtain ⟨S1, ws, rfl, hx0, rfl⟩ := hX
    refine jmp_r ?_; refine q_block_r ?_; exact ⟨[r], S1 * pt b1 (cl [.int .i64 (at_ : Int)] 3) * pt b2 (cl [.int .i64 (n : Int)] 3), rfl, fun _ _ h => mk1 (Dr.sat (A' := S1 * pt b1 (cl [.int .i64 (at_ : Int)] 3) * pt b2 (cl [.int .i64 (n : Int)] 3) * pt r mkO) (by repeat (first | with_reducible exact dr_refl | apply dr_keep | apply dr_drop)) _ _ h), .tuple #[], S1 * pt b1 (cl [.int .i64 (at_ : Int)] 3) * pt b2 (cl [.int .i64 (n : Int)] 3), res0 rfl, fun _ _ h => h, rfl, .inr ⟨S1, hx0, rfl⟩⟩
end Rg
theorem Lines_it {at_ n N b1 b2 : Nat} (h1 : 1 ≤ n) (h2 : at_ + n ≤ 9223372036854775807) (hN : N = (at_ + n - 1) / 64 - at_ / 64 + 1) :
    Rg.It Try.prog 97 [] [.pointer (some ⟨b1, 0, none⟩), .pointer (some ⟨b2, 0, none⟩)] (pt b1 (cl [.int .i64 (at_ : Int)] 3) * pt b2 (cl [.int .i64 (n : Int)] 3)) N (fun i => [.int .i64 ((at_ / 64 + i : Nat) : Int)]) := fun l J X S0 h0 hY => by
  have hk : ∀ S : SP, S * (pt b1 (cl [.int .i64 (at_ : Int)] 3) * pt b2 (cl [.int .i64 (n : Int)] 3)) = S * pt b1 (cl [.int .i64 (at_ : Int)] 3) * pt b2 (cl [.int .i64 (n : Int)] 3) := fun S => star2' _ _ _
  rw [hk S0]
  refine (Rg.Lines1_f (J := J) (X := X) h1 h2 hN h0 hY).mono ?_; rintro v B ⟨rfl, ⟨S, hS, rfl⟩ | ⟨S, hS, rfl⟩⟩
  · exact ⟨rfl, .inl ⟨S, hS, (hk S).symm⟩⟩
  · exact ⟨rfl, .inr ⟨S, hS, (hk S).symm⟩⟩
theorem Lines_c {A : SP} {at_ n : Nat} :
    Fn Try.prog 90 #[.int .i64 (at_ : Nat), .int .i64 (n : Nat)] (A) (fun r B => ∃ b1 b2, r = .func (.func 97) #[] #[.pointer (some ⟨b1, 0, none⟩), .pointer (some ⟨b2, 0, none⟩)] ∧ B = A * (pt b1 (cl [.int .i64 (at_ : Int)] 3) * pt b2 (cl [.int .i64 (n : Int)] 3))) := by
  refine fn_enterW (args := [.int .i64 (at_ : Nat), .int .i64 (n : Nat)]) Try.func90 rfl Try.ntmps90 (by simp) ?_; refine sr ?_; refine tl_x rfl (o_box rfl rfl) ?_; rintro _ _ ⟨b2, rfl, rfl⟩; refine tl_x rfl (o_box rfl rfl) ?_; rintro _ _ ⟨b3, rfl, rfl⟩; refine tla ?_; refine nq ?_; refine sr ?_; refine tv (o_makeFunc rfl rfl) ?_; refine tla ?_; refine nq ?_; refine tc_ret ?_; exact ⟨_, _, res1 rfl rfl, fun _ _ h => h, b2, b3, rfl, (star2' _ _ _).symm⟩
end Go.Vl

namespace Go.Vl
open Go Go.Proofs
theorem ct_wf2 {A R : SP} {C : SP → SP} {d : Nat} {s : DevS} (hc : Ct A (Dev d s) R C) {g : Gh} {w : World} (hs : sat g w A) : WfD s := by
  obtain ⟨rfl, _⟩ := hc; exact (dev_iff.1 hs).1
theorem doneS_len (s : DevS) : (doneS s).ls.length = s.ls.length := by
  unfold doneS
  split
  · rfl
  · split
    · rfl
    · simp [goesS, goPart_length]
theorem fl1_len (p : Int) (s : DevS) : (fl1 p s).2.ls.length = s.ls.length := by
  unfold fl1
  split
  · rfl
  · rw [doneS_len]; exact (onLine_fields _ _ s).2.2.2.2
/-- Lines are flushed, one behind the other; then the fence. -/
def flF : Nat → Nat → DevS → Int × DevS
  | 0, _, s => fe s
  | k + 1, q, s => if (fl1 ((q * 64 : Nat) : Int) s).1 ≠ 0 then fl1 ((q * 64 : Nat) : Int) s else flF k (q + 1) (fl1 ((q * 64 : Nat) : Int) s).2
theorem flF_zero (q : Nat) (s : DevS) : flF 0 q s = fe s := rfl
theorem flF_e {N i q : Nat} {s s2 : DevS} {e : Int} (hi : i < N) (h : fl1 (((q + i) * 64 : Nat) : Int) s = (e, s2)) (he : e ≠ 0) : flF (N - i) (q + i) s = (e, s2) := by
  rw [show N - i = (N - (i + 1)) + 1 by omega]
  show (if _ then _ else _) = _
  rw [h, if_pos he]
theorem flF_o {N i q : Nat} {s s2 : DevS} (hi : i < N) (h : fl1 (((q + i) * 64 : Nat) : Int) s = (0, s2)) : flF (N - i) (q + i) s = flF (N - (i + 1)) (q + (i + 1)) s2 := by
  rw [show N - i = (N - (i + 1)) + 1 by omega]
  show (if _ then _ else _) = _
  rw [h, if_neg (by simp)]; rfl
/-- A range is made to last. -/
def lastS (p m : Nat) (s : DevS) : Int × DevS := flF ((p + m - 1) / 64 - p / 64 + 1) (p / 64) s
attribute [local irreducible] Sl pt ro Dev imgS
namespace Rg
theorem last_c {A R : SP} {C : SP → SP} {d : Nat} {s : DevS} (hc : Ct A (Dev d s) R C := by repeat (first | with_reducible exact ct_here | apply ct_left)) {p m : Nat} (h1 : 1 ≤ m := by omega) (hpm : p + m ≤ s.ls.length * 64 := by omega) :
    Fn Try.prog 76 #[.pointer (some ⟨d, 0, none⟩), .int .i64 (p : Nat), .int .i64 (m : Nat)] (A) (fun r B => ∃ e s2, lastS p m s = (e, s2) ∧ r = .int .i64 e ∧ B = C (Dev d s2)) := by
  refine fn_enterW (args := [.pointer (some ⟨d, 0, none⟩), .int .i64 (p : Nat), .int .i64 (m : Nat)]) Try.func76 rfl Try.ntmps76 (by simp) ?_; refine tc_have (fun _ _ h => ct_wf2 hc h) fun hw => ?_
  obtain ⟨rfl, hC⟩ := hc
  have htop := hw.top
  refine tc_seq ?_; refine tc_reg ?_; refine tl_x rfl (o_alloc z39 rfl) ?_; rintro _ _ ⟨b6, rfl, rfl⟩; refine tl_nil ?_; refine q_then_n ?_; refine tc_seq ?_; refine tc_reg ?_; refine tlm ?_; refine tl_v rfl (o_makeFunc rfl rfl) ?_; refine tl_x rfl (o_alloc z151 rfl) ?_; rintro _ _ ⟨b7, rfl, rfl⟩; refine tl_u rfl (o_stU rfl (by repeat (first | with_reducible exact upd_here | with_reducible exact upd_pt | apply upd_left)) sz151 rfl rfl (by first | decide | simp | omega) rfl) ?_; refine tl_nil ?_; refine q_then_n ?_; refine tc_seq ?_; refine tc_seq ?_; refine tc_reg ?_; refine tlm ?_; refine tlm ?_; refine tl_c rfl (o_call bd90 rfl (Lines_c)) ?_; rintro _ _ ⟨w1, w2, rfl, rfl⟩; refine tl_nil ?_; refine q_then_n ?_; refine tc_block ?_; refine tc_rangeI (K := (pt w1 (cl [.int .i64 (p : Int)] 3) * pt w2 (cl [.int .i64 (m : Int)] 3))) (N := ((p + m - 1) / 64 - p / 64 + 1)) (A0 := R * Dev d s * pt b6 (cl [.int .i64 0] 39) * pt b7 (cl [.func (.func 56) #[.pointer (some ⟨d, 0, none⟩)] #[]] 151)) (fun i S => ∃ (s1 : DevS), (flF (((p + m - 1) / 64 - p / 64 + 1) - i) (p / 64 + i) s1 = flF ((p + m - 1) / 64 - p / 64 + 1) (p / 64) s) ∧ (s1.ls.length = s.ls.length) ∧ S = R * Dev d s1 * pt b6 (cl [.int .i64 0] 39) * pt b7 (cl [.func (.func 56) #[.pointer (some ⟨d, 0, none⟩)] #[]] 151)) (fun j S => ∃ (e : Int) (s1 : DevS), j = .ret ∧ (flF ((p + m - 1) / 64 - p / 64 + 1) (p / 64) s = (e, s1)) ∧ S = R * Dev d s1 * pt b6 (cl [.int .i64 e] 39) * pt b7 (cl [.func (.func 56) #[.pointer (some ⟨d, 0, none⟩)] #[]] 151)) rfl bd97 (Lines_it (N := ((p + m - 1) / 64 - p / 64 + 1)) h1 (by omega) rfl) (fun _ => rfl) rfl (Dr.sat (by repeat (first | with_reducible exact dr_refl | apply dr_keep | apply dr_drop))) (⟨s, rfl, rfl, rfl⟩) ?_ ?_ ?_
  · intro l F i S hi hI
    obtain ⟨s1, hi0, hi1, rfl⟩ := hI
    refine tc_eq (by simp only [← star_assoc]; rfl) ?_; refine tc_env (d := 15) (v := .int .i64 ((p / 64 + i : Nat) : Int)) (rfl) ?_; refine tc_reg ?_; refine tla ?_; refine tl_nil ?_; refine ⟨R * Dev d s1 * pt b6 (cl [.int .i64 0] 39) * pt b7 (cl [.func (.func 56) #[.pointer (some ⟨d, 0, none⟩)] #[]] 151), fun g w h => by simp only [← star_assoc]; exact Dr.sat (by repeat (first | with_reducible exact dr_refl | apply dr_keep | apply dr_drop)) g w h, fun F => ?_⟩; refine tc_eq (by simp only [← star_assoc]; rfl) ?_; refine tc_block ?_; refine tc_seq ?_; refine tc_reg ?_; refine tl_v rfl (by first | exact o_load p151 rfl (by repeat (first | with_reducible exact has_here | with_reducible exact has_pt | apply has_left)) rfl | exact o_loadC p151 rfl (by assumption)) ?_; refine tlm ?_; refine tl_v rfl (by first | exact o_mulI rfl rfl (by omega) | exact o_mul rfl rfl) ?_; refine tl_env (d := 18) (v := .int .i64 (((p / 64 + i) * 64 : Nat) : Int)) (rfl) ?_; refine tl_c rfl (o_dyn bd56 rfl rfl (Flush_c (s := s1) (p := (((p / 64 + i) * 64 : Nat) : Int)))) ?_; rintro _ _ ⟨e19, s19, hs19, rfl, rfl⟩; refine tla ?_; refine tl_nil ?_; refine q_then_n ?_; refine tc_seq ?_; refine tc_reg ?_; refine tlm ?_; refine tl_v rfl (o_nei rfl rfl) ?_; refine tl_nil ?_; refine q_then_n ?_; refine tc_cond rfl (fun h => ?_) (fun h => ?_)
    · have h : e19 ≠ 0 := by simpa using h
      refine tc_seq ?_; refine tc_reg ?_; refine tlm ?_; refine tl_u rfl (o_stU rfl (by repeat (first | with_reducible exact upd_here | with_reducible exact upd_pt | apply upd_left)) sz39 rfl rfl (by first | decide | simp | omega) rfl) ?_; refine tl_nil ?_; refine q_then_n ?_; refine tc_ret ?_; refine q_block_r ?_; exact ⟨R * Dev d (s19) * pt b6 (cl [.int .i64 (e19)] 39) * pt b7 (cl [.func (.func 56) #[.pointer (some ⟨d, 0, none⟩)] #[]] 151), fun g w h => by simp only [← star_assoc]; exact Dr.sat (by repeat (first | with_reducible exact dr_refl | apply dr_keep | apply dr_drop)) g w h, e19, s19, rfl, by rw [← hi0]; exact flF_e hi hs19 h, rfl⟩
    · obtain rfl : e19 = 0 := by simpa using h
      refine tc_skip ?_; refine q_block_n ?_; exact ⟨R * Dev d (s19) * pt b6 (cl [.int .i64 0] 39) * pt b7 (cl [.func (.func 56) #[.pointer (some ⟨d, 0, none⟩)] #[]] 151), fun g w h => by simp only [← star_assoc]; exact Dr.sat (by repeat (first | with_reducible exact dr_refl | apply dr_keep | apply dr_drop)) g w h, s19, by rw [← hi0]; exact (flF_o hi hs19).symm, by have := fl1_len (((p / 64 + i) * 64 : Nat) : Int) s1; rw [hs19] at this; exact this.trans hi1, rfl⟩
  · intro r S hI
    obtain ⟨s1, hi0, hi1, rfl⟩ := hI
    refine q_block_n (q_then_n ?_); refine tc_seq ?_; refine tc_reg ?_; refine tlm ?_; refine tl_c rfl (o_call bd44 rfl (Fence_c (s := s1))) ?_; rintro _ _ ⟨e24, s24, hs24, rfl, rfl⟩
    have hlast : lastS p m s = (e24, s24) := by show flF _ _ _ = _; rw [← hi0, Nat.sub_self]; exact hs24
    refine tl_u rfl (o_stU rfl (by repeat (first | with_reducible exact upd_here | with_reducible exact upd_pt | apply upd_left)) sz39 rfl rfl (by first | decide | simp | omega) rfl) ?_; refine tl_nil ?_; refine q_then_n ?_; refine tc_ret ?_; exact ⟨[r], R * Dev d s24 * pt b6 (cl [.int .i64 e24] 39), rfl, fun _ _ h => mk1 (Dr.sat (A' := R * Dev d s24 * pt b6 (cl [.int .i64 e24] 39) * pt r mkO) (by repeat (first | with_reducible exact dr_refl | apply dr_keep | apply dr_drop)) _ _ h), .int .i64 e24, C (Dev d s24), resA1 rfl (rv_cell1 p39 rfl (by repeat (first | with_reducible exact has_here | with_reducible exact has_pt | apply has_left)) rfl), fun _ _ h => by rw [hC]; exact h.left, e24, s24, hlast, rfl, rfl⟩
  · intro r j S hX
    obtain ⟨e, s1, rfl, hx0, rfl⟩ := hX
    refine jmp_r ?_; refine q_block_r (q_then_r ?_); exact ⟨[r], R * Dev d s1 * pt b6 (cl [.int .i64 e] 39), rfl, fun _ _ h => mk1 (Dr.sat (A' := R * Dev d s1 * pt b6 (cl [.int .i64 e] 39) * pt r mkO) (by repeat (first | with_reducible exact dr_refl | apply dr_keep | apply dr_drop)) _ _ h), .int .i64 e, C (Dev d s1), resA1 rfl (rv_cell1 p39 rfl (by repeat (first | with_reducible exact has_here | with_reducible exact has_pt | apply has_left)) rfl), fun _ _ h => by rw [hC]; exact h.left, e, s1, hx0, rfl, rfl⟩
end Rg
end Go.Vl

namespace Go.Vl
open Go Go.Proofs
def insB (n : Nat) (p m : Int) : Bool := decide (0 ≤ p ∧ 0 ≤ m ∧ p ≤ (n : Int) * 64 ∧ m ≤ (n : Int) * 64 - p)
theorem insB_rdy {n : Nat} {p m : Int} : insB n p m = true ↔ rdy n false p m = 0 := by
  unfold insB rdy
  simp only [decide_eq_true_eq, Bool.false_eq_true, if_false]
  constructor
  · intro h; rw [if_neg (by omega)]
  · intro h
    by_cases hc : p < 0 ∨ m < 0 ∨ (n : Int) * 64 < p ∨ (n : Int) * 64 - p < m
    · rw [if_pos hc] at h; exact absurd h (by decide)
    · omega
theorem stE_off {s : DevS} (h : stE s ≠ 0) : s.off = true := by
  unfold stE at h; by_cases e : s.off = true
  · exact e
  · rw [if_neg e] at h; exact absurd rfl h
theorem stE_on {s : DevS} (h : stE s = 0) : s.off = false := by
  unfold stE at h; by_cases e : s.off = true
  · rw [if_pos e] at h; exact absurd h (by decide)
  · simpa using e
theorem layS_len' (p v : Nat) (s : DevS) : (layS p v s).ls.length = s.ls.length := (onLine_fields _ _ s).2.2.2.2
theorem storeF_len : ∀ (f p : Nat) (b : List Nat) (s : DevS), (storeF f p b s).2.ls.length = s.ls.length
  | 0, _, _, _ => rfl
  | f + 1, p, b, s => by
    unfold storeF
    split
    · rfl
    · split
      · rw [doneS_len, layS_len']
      · rw [storeF_len, doneS_len, layS_len']
theorem sto_len (p : Int) (b : List Nat) (s : DevS) : (sto p b s).2.ls.length = s.ls.length := by
  unfold sto
  split
  · rfl
  · exact storeF_len _ _ _ _
theorem st8_len (p : Int) (v : Nat) (s : DevS) : (st8 p v s).2.ls.length = s.ls.length := by
  unfold st8
  split
  · rfl
  · split
    · rfl
    · rw [doneS_len, layS_len']
theorem st8_rdy {p : Int} {v : Nat} {s : DevS} (h : (st8 p v s).1 = 0) : rdy s.ls.length s.off p 8 = 0 := by
  unfold st8 at h
  split at h
  · exact h
  · rename_i h2; exact Classical.not_not.1 h2
/-- What Range, Bytes, Publish answer, and the device behind them. -/
def rangeP (p m : Int) (s : DevS) : Int × DevS := if s.off = true then (5, s) else if m < 1 then (0, s) else if rdy s.ls.length false p m ≠ 0 then (6, s) else lastS p.toNat m.toNat s
def bytesP (p : Int) (b : List Nat) (s : DevS) : Int × DevS := if s.off = true then (5, s) else if b = [] then (0, s) else if (sto p b s).1 ≠ 0 then sto p b s else lastS p.toNat b.length (sto p b s).2
def pubP (p : Int) (v : Nat) (s : DevS) : Int × DevS := if (st8 p v s).1 ≠ 0 then st8 p v s else lastS p.toNat 8 (st8 p v s).2
/-- A number of n bytes that is told. -/
def loadP (p : Int) (n : Nat) (s : DevS) : Nat × Int := if rdy s.ls.length s.off p n ≠ 0 then (0, rdy s.ls.length s.off p n) else (nm (((imgS s).drop p.toNat).take n), 0)
def wordP (p : Int) (s : DevS) : Nat × Int := if s.off = true then (0, 5) else if p % 8 ≠ 0 then (0, 6) else loadP p 8 s
attribute [local irreducible] Sl pt ro Dev imgS
theorem inside_c {A R : SP} {C : SP → SP} {d : Nat} {s : DevS} (hc : Ct A (Dev d s) R C := by repeat (first | with_reducible exact ct_here | apply ct_left)) {p m : Int} (hp : -9223372036854775808 ≤ p ∧ p ≤ 9223372036854775807 := by omega) (hm : -9223372036854775808 ≤ m ∧ m ≤ 9223372036854775807 := by omega) :
    Fn Try.prog 75 #[.pointer (some ⟨d, 0, none⟩), .int .i64 p, .int .i64 m] (A) (fun r B => r = .bool (insB s.ls.length p m) ∧ A = B) := by
  refine fn_enterW (args := [.pointer (some ⟨d, 0, none⟩), .int .i64 p, .int .i64 m]) Try.func75 rfl Try.ntmps75 (by simp) ?_; refine tc_have (fun _ _ h => ct_wf2 hc h) fun hw => ?_
  have htop := hw.top
  refine sr ?_; refine tla ?_; refine nq ?_; refine sr ?_; refine tlm ?_; refine tv (o_geq rfl rfl) ?_; refine tlm ?_; refine tl_bool (d := 9) rfl (fun h => ?_) (fun h => ?_)
  · try simp only [lv1, lv2, lv3, lv4, lv5, lv6, Bool.not_true, Bool.not_false] at h
    refine tlm ?_; refine tv (o_geq rfl rfl) ?_; refine tv (o_pick_t rfl (by conv => lhs; whnf)) ?_; refine tlm ?_; refine tl_bool (d := 13) rfl (fun h => ?_) (fun h => ?_)
    · try simp only [lv1, lv2, lv3, lv4, lv5, lv6, Bool.not_true, Bool.not_false] at h
      refine tlm ?_; refine tlm ?_; refine tl_c rfl (o_call bd34 rfl (Size_c hc)) ?_; rintro _ _ ⟨rfl, rfl⟩; refine tv (o_leq rfl rfl) ?_; refine tv (o_pick_t rfl (by conv => lhs; whnf)) ?_; refine tlm ?_; refine tl_bool (d := 19) rfl (fun h => ?_) (fun h => ?_)
      · try simp only [lv1, lv2, lv3, lv4, lv5, lv6, Bool.not_true, Bool.not_false] at h
        refine tlm ?_; refine tlm ?_; refine tl_c rfl (o_call bd34 rfl (Size_c hc)) ?_; rintro _ _ ⟨rfl, rfl⟩; refine tlm ?_; refine tv (by first | exact o_subI rfl rfl (by omega) | exact o_sub rfl rfl) ?_; refine tv (o_leq rfl rfl) ?_; refine tv (o_pick_t rfl (by conv => lhs; whnf)) ?_; refine tla ?_; refine nq ?_; refine tc_ret ?_; exact ⟨_, A, res1 rfl rfl, fun _ _ h => h, congrArg Value.bool (by rw [Bool.eq_iff_iff]; simp [insB]; omega), rfl⟩
      · try simp only [lv1, lv2, lv3, lv4, lv5, lv6, Bool.not_true, Bool.not_false] at h
        refine tk ?_; refine tk ?_; refine tk ?_; refine tk ?_; refine tk ?_; refine tk ?_; refine tv (o_pick_f rfl (by conv => lhs; whnf)) ?_; refine tla ?_; refine nq ?_; refine tc_ret ?_; exact ⟨_, A, res1 rfl rfl, fun _ _ h => h, congrArg Value.bool (by rw [Bool.eq_iff_iff]; simp [insB]; omega), rfl⟩
    · try simp only [lv1, lv2, lv3, lv4, lv5, lv6, Bool.not_true, Bool.not_false] at h
      refine tk ?_; refine tk ?_; refine tk ?_; refine tk ?_; refine tv (o_pick_f rfl (by conv => lhs; whnf)) ?_; refine tlm ?_; refine tk ?_; refine tk ?_; refine tk ?_; refine tk ?_; refine tk ?_; refine tk ?_; refine tv (o_pick_f rfl (by conv => lhs; whnf)) ?_; refine tla ?_; refine nq ?_; refine tc_ret ?_; exact ⟨_, A, res1 rfl rfl, fun _ _ h => h, congrArg Value.bool (by rw [Bool.eq_iff_iff]; simp [insB]; omega), rfl⟩
  · try simp only [lv1, lv2, lv3, lv4, lv5, lv6, Bool.not_true, Bool.not_false] at h
    refine tk ?_; refine tk ?_; refine tv (o_pick_f rfl (by conv => lhs; whnf)) ?_; refine tlm ?_; refine tk ?_; refine tk ?_; refine tk ?_; refine tk ?_; refine tv (o_pick_f rfl (by conv => lhs; whnf)) ?_; refine tlm ?_; refine tk ?_; refine tk ?_; refine tk ?_; refine tk ?_; refine tk ?_; refine tk ?_; refine tv (o_pick_f rfl (by conv => lhs; whnf)) ?_; refine tla ?_; refine nq ?_; refine tc_ret ?_; exact ⟨_, A, res1 rfl rfl, fun _ _ h => h, congrArg Value.bool (by rw [Bool.eq_iff_iff]; simp [insB]; omega), rfl⟩
theorem Range_c {A R : SP} {C : SP → SP} {d : Nat} {s : DevS} (hc : Ct A (Dev d s) R C := by repeat (first | with_reducible exact ct_here | apply ct_left)) {p m : Int} (hp : -9223372036854775808 ≤ p ∧ p ≤ 9223372036854775807 := by omega) (hm : -9223372036854775808 ≤ m ∧ m ≤ 9223372036854775807 := by omega) :
    Fn Try.prog 62 #[.pointer (some ⟨d, 0, none⟩), .int .i64 p, .int .i64 m] (A) (fun r B => ∃ e s2, rangeP p m s = (e, s2) ∧ r = .int .i64 e ∧ B = C (Dev d s2)) := by
  refine fn_enterW (args := [.pointer (some ⟨d, 0, none⟩), .int .i64 p, .int .i64 m]) Try.func62 rfl Try.ntmps62 (by simp) ?_; refine tc_have (fun _ _ h => ct_wf2 hc h) fun hw => ?_
  obtain ⟨rfl, hC⟩ := hc
  have htop := hw.top
  have hpos := hw.pos
  have hAC : ∀ g w, sat g w (R * Dev d s) → sat g w (C (Dev d s)) := fun g w h => by rw [hC]; exact h
  refine sr ?_; refine tla ?_; refine nq ?_; refine tc_seq ?_; refine sr ?_; refine tlm ?_; refine tl_c rfl (o_call bd66 rfl (alive_c (s := s))) ?_; rintro _ _ ⟨rfl, rfl⟩; refine tla ?_; refine nq ?_; refine sr ?_; refine tlm ?_; refine tv (o_nei rfl rfl) ?_; refine nq ?_; refine tc_cond rfl (fun h => ?_) (fun h => ?_)
  · try simp only [lv1, lv2, lv3, lv4, lv5, lv6, Bool.not_true, Bool.not_false] at h
    refine sr ?_; refine tlm ?_; refine tla ?_; refine nq ?_; refine tc_ret ?_; refine q_then_r ?_; exact ⟨.int .i64 (stE s), C (Dev d s), res1 rfl rfl, hAC, stE s, s, by have ho := stE_off h; unfold rangeP stE; rw [if_pos ho, if_pos ho], rfl, rfl⟩
  · have ho : s.off = false := stE_on (by simpa using h)
    refine tc_skip ?_; refine q_then_n ?_; refine tc_seq ?_; refine sr ?_; refine tlm ?_; refine tv (o_lss rfl rfl) ?_; refine nq ?_; refine tc_cond rfl (fun h => ?_) (fun h => ?_)
    · try simp only [lv1, lv2, lv3, lv4, lv5, lv6, Bool.not_true, Bool.not_false] at h
      refine sr ?_; refine tla ?_; refine nq ?_; refine tc_ret ?_; refine q_then_r ?_; exact ⟨.int .i64 0, C (Dev d s), res1 rfl rfl, hAC, 0, s, by unfold rangeP; rw [if_neg (by rw [ho]; decide), if_pos h], rfl, rfl⟩
    · try simp only [lv1, lv2, lv3, lv4, lv5, lv6, Bool.not_true, Bool.not_false] at h
      refine tc_skip ?_; refine q_then_n ?_; refine tc_seq ?_; refine sr ?_; refine tlm ?_; refine tlm ?_; refine tlm ?_; refine tl_c rfl (o_call bd75 rfl (inside_c (s := s) (p := p) (m := m))) ?_; rintro _ _ ⟨rfl, rfl⟩; refine tv (o_not rfl) ?_; refine nq ?_; refine tc_cond rfl (fun h => ?_) (fun h => ?_)
      · try simp only [lv1, lv2, lv3, lv4, lv5, lv6, Bool.not_true, Bool.not_false] at h
        refine sr ?_; refine tla ?_; refine nq ?_; refine tc_ret ?_; refine q_then_r ?_; exact ⟨.int .i64 6, C (Dev d s), res1 rfl rfl, hAC, 6, s, by unfold rangeP; rw [if_neg (by rw [ho]; decide), if_neg (by omega), if_pos (fun e => by rw [insB_rdy.2 e] at h; cases h)], rfl, rfl⟩
      · have hr : rdy s.ls.length false p m = 0 := insB_rdy.1 (by simpa using h)
        have hr2 := rdy0 hr
        obtain ⟨q, rfl⟩ := Int.eq_ofNat_of_zero_le hr2.2.1
        obtain ⟨k, rfl⟩ := Int.eq_ofNat_of_zero_le hr2.2.2.1
        refine tc_skip ?_; refine q_then_n ?_; refine sr ?_; refine tlm ?_; refine tlm ?_; refine tlm ?_; refine tl_c rfl (o_call bd76 rfl (Rg.last_c (s := s) (p := q) (m := k))) ?_; rintro _ _ ⟨e23, s23, hs23, rfl, rfl⟩; refine tla ?_; refine nq ?_; refine tc_ret ?_; exact ⟨.int .i64 e23, C (Dev d s23), res1 rfl rfl, fun _ _ h => by rw [hC]; exact h, e23, s23, by unfold rangeP; rw [if_neg (by rw [ho]; decide), if_neg (by omega), if_neg (by simpa using hr)]; exact hs23, rfl, rfl⟩
theorem Publish_c {A R : SP} {C : SP → SP} {d : Nat} {s : DevS} (hc : Ct A (Dev d s) R C := by repeat (first | with_reducible exact ct_here | apply ct_left)) {v : Nat} {p : Int} (hp : -9223372036854775808 ≤ p ∧ p ≤ 9223372036854775807 := by omega) (hv : v < 18446744073709551616 := by omega) (hroom : Room 1 s := by assumption) :
    Fn Try.prog 63 #[.pointer (some ⟨d, 0, none⟩), .int .i64 p, .int .u64 (v : Nat)] (A) (fun r B => ∃ e s2, pubP p v s = (e, s2) ∧ r = .int .i64 e ∧ B = C (Dev d s2)) := by
  refine fn_enterW (args := [.pointer (some ⟨d, 0, none⟩), .int .i64 p, .int .u64 (v : Nat)]) Try.func63 rfl Try.ntmps63 (by simp) ?_; refine tc_have (fun _ _ h => ct_wf2 hc h) fun hw => ?_
  obtain ⟨rfl, hC⟩ := hc
  have htop := hw.top
  have hpos := hw.pos
  have hAC : ∀ g w, sat g w (R * Dev d s) → sat g w (C (Dev d s)) := fun g w h => by rw [hC]; exact h
  refine sr ?_; refine tla ?_; refine nq ?_; refine tc_seq ?_; refine sr ?_; refine tlm ?_; refine tlm ?_; refine tlm ?_; refine tl_c rfl (o_call bd77 rfl (Store8_c (s := s) (p := p) (v := v))) ?_; rintro _ _ ⟨e11, s11, hs11, rfl, rfl⟩; refine tla ?_; refine nq ?_; refine sr ?_; refine tlm ?_; refine tv (o_nei rfl rfl) ?_; refine nq ?_; refine tc_cond rfl (fun h => ?_) (fun h => ?_)
  · try simp only [lv1, lv2, lv3, lv4, lv5, lv6, Bool.not_true, Bool.not_false] at h
    refine sr ?_; refine tlm ?_; refine tla ?_; refine nq ?_; refine tc_ret ?_; refine q_then_r ?_; exact ⟨.int .i64 e11, C (Dev d s11), res1 rfl rfl, fun _ _ h => by rw [hC]; exact h, e11, s11, by unfold pubP; rw [hs11, if_pos (by simpa using h)], rfl, rfl⟩
  · obtain rfl : e11 = 0 := by simpa using h
    have hrd := rdy0 (st8_rdy (by rw [hs11]))
    have hsl := st8_len p v s
    rw [hs11] at hsl
    simp only at hsl
    obtain ⟨q, rfl⟩ := Int.eq_ofNat_of_zero_le hrd.2.1
    refine tc_skip ?_; refine q_then_n ?_; refine sr ?_; refine tlm ?_; refine tlm ?_; refine tl_c rfl (o_call bd76 rfl (Rg.last_c (s := s11) (p := q) (m := 8))) ?_; rintro _ _ ⟨e17, s17, hs17, rfl, rfl⟩; refine tla ?_; refine nq ?_; refine tc_ret ?_; exact ⟨.int .i64 e17, C (Dev d s17), res1 rfl rfl, fun _ _ h => by rw [hC]; exact h, e17, s17, by unfold pubP; rw [hs11, if_neg (by simp)]; exact hs17, rfl, rfl⟩
end Go.Vl

namespace Go.Vl
open Go Go.Proofs
/-- v is no device: nil, or one that no call has made. -/
def NoD (A : SP) (v : Value) : Prop := v = .pointer none ∨ ∃ b, v = .pointer (some ⟨b, 0, none⟩) ∧ Cell A b 0 (.slice none 0 0)
theorem NoD.left {A X : SP} {v : Value} (h : NoD A v) : NoD (A * X) v := h.imp id fun ⟨b, e, hc⟩ => ⟨b, e, hc.left⟩
end Go.Vl

namespace Go.Vl
open Go Go.Proofs
theorem img_lt {s : DevS} : ∀ x ∈ imgS s, x < 256 := fun x hx => by
  unfold imgS img at hx
  obtain ⟨l, _, h⟩ := List.mem_flatMap.1 hx
  unfold lb at h
  obtain ⟨v, _, h⟩ := List.mem_flatMap.1 h
  exact le_bytes _ _ _ h
theorem imgS_len {s : DevS} (hw : WfD s) : (imgS s).length = s.ls.length * 64 := img_length hw.line
theorem img_sub {s : DevS} {p n : Nat} : ∀ x ∈ ((imgS s).drop p).take n, x < 256 := fun x hx => img_lt x (List.mem_of_mem_drop (List.mem_of_mem_take hx))
theorem nm_take0 (xs : List Nat) (n : Nat) : nm (((xs.take n).drop 0).take n) = nm (xs.take n) := by rw [List.drop_zero, List.take_take, Nat.min_self]
attribute [local irreducible] Sl pt ro Dev imgS
set_option maxRecDepth 20000 in
set_option maxHeartbeats 1000000 in
theorem FL64_ok {A R : SP} {C : SP → SP} {d : Nat} {s : DevS} (hc : Ct A (Dev d s) R C := by repeat (first | with_reducible exact ct_here | apply ct_left)) {p : Nat} (hoff : s.off = false) (hpm : p + 8 ≤ s.ls.length * 64) :
    Fn Try.prog 67 #[.agg [Value.int .i64 (p : Nat)].toArray, .pointer (some ⟨d, 0, none⟩)] (A) (fun r B => r = .tuple #[.int .u64 ((nm (((imgS s).drop p).take 8) : Nat) : Int), .int .i64 0] ∧ A = B) := by
  refine fn_enterW (args := [.agg [Value.int .i64 (p : Nat)].toArray, .pointer (some ⟨d, 0, none⟩)]) Try.func67 rfl Try.ntmps67 (by simp) ?_; refine tc_have (fun _ _ h => ct_wf2 hc h) fun hw => ?_
  obtain ⟨rfl, hC⟩ := hc
  have htop := hw.top
  have hil : (imgS s).length = s.ls.length * 64 := imgS_len hw
  have hI : (((imgS s).drop p).take 8).length = 8 := by rw [List.length_take, List.length_drop]; omega
  have hIb := img_sub (s := s) (p := p) (n := 8)
  refine sr ?_; refine tl_x rfl (o_box rfl rfl) ?_; rintro _ _ ⟨b2, rfl, rfl⟩; refine tla ?_; refine tla ?_; refine nq ?_; refine sr ?_; refine tla ?_; refine nq ?_; refine tc_seq ?_; refine tc_regh mo dr_refl ?_
  show TH _ _ _ _ _ 12 #[ff,ff,ff,ff,ff,ff,ff,ff,ff,ff,ff,ff] _ _
  refine th_take (i := 0) (listed' := #[tt,ff,ff,ff,ff,ff,ff,ff,ff,ff,ff,ff]) rfl (by kernel_rfl) (by kernel_rfl) (by kernel_rfl) rfl rfl (o_move (by conv => lhs; whnf)) ?_; refine th_take (i := 1) (listed' := #[tt,tt,ff,ff,ff,ff,ff,ff,ff,ff,ff,ff]) rfl (by kernel_rfl) (by kernel_rfl) (by kernel_rfl) rfl rfl (o_fieldAddr (o := 0) Try.underlying127 rfl rfl sz3 rfl) ?_; refine th_take (i := 2) (listed' := #[tt,tt,tt,ff,ff,ff,ff,ff,ff,ff,ff,ff]) rfl (by kernel_rfl) (by kernel_rfl) (by kernel_rfl) rfl rfl (by first | exact o_load p3 rfl (by repeat (first | with_reducible exact has_here | with_reducible exact has_pt | apply has_left)) rfl | exact o_loadC p3 rfl (by assumption)) ?_; refine th_take (i := 3) (listed' := #[tt,tt,tt,tt,ff,ff,ff,ff,ff,ff,ff,ff]) rfl (by kernel_rfl) (by kernel_rfl) (by kernel_rfl) rfl rfl (o_move (by conv => lhs; whnf)) ?_; refine th_one (i := 4) (by kernel_rfl) ?_; refine oh_c (i := 4) (listed' := #[tt,tt,tt,tt,tt,ff,ff,ff,ff,ff,ff,ff]) rfl rfl rfl (o_call bd50 rfl (Put64_c (xs := []) (v := 0))) ?_; rintro _ _ ⟨a14, c14, rfl, hc14, rfl⟩; refine ⟨by repeat (first | with_reducible exact dr_refl | apply dr_keep | apply dr_drop), ?_⟩; refine th_take (i := 5) (listed' := #[tt,tt,tt,tt,tt,tt,ff,ff,ff,ff,ff,ff]) rfl (by kernel_rfl) (by kernel_rfl) (by kernel_rfl) rfl rfl (o_len Try.underlying22 rfl) ?_; refine th_one (i := 6) (by kernel_rfl) ?_; refine oh_c (i := 6) (listed' := #[tt,tt,tt,tt,tt,tt,tt,ff,ff,ff,ff,ff]) rfl rfl rfl (o_call bd28 rfl (Load_c (s := s) (p := p) (m := 8))) ?_
  rintro _ _ ⟨a16, c16, rfl, hc16, rfl⟩; refine ⟨by repeat (first | with_reducible exact dr_refl | apply dr_keep | apply dr_drop), ?_⟩; refine th_take (i := 7) (listed' := #[tt,tt,tt,tt,tt,tt,tt,tt,ff,ff,ff,ff]) rfl (by kernel_rfl) (by kernel_rfl) (by kernel_rfl) rfl rfl (o_move (by conv => lhs; whnf)) ?_; refine th_take (i := 8) (listed' := #[tt,tt,tt,tt,tt,tt,tt,tt,tt,ff,ff,ff]) rfl (by kernel_rfl) (by kernel_rfl) (by kernel_rfl) rfl rfl (o_extract rfl rfl) ?_; refine th_take (i := 9) (listed' := #[tt,tt,tt,tt,tt,tt,tt,tt,tt,tt,ff,ff]) rfl (by kernel_rfl) (by kernel_rfl) (by kernel_rfl) rfl rfl (o_extract rfl rfl) ?_; refine th_take (i := 10) (listed' := #[tt,tt,tt,tt,tt,tt,tt,tt,tt,tt,tt,ff]) rfl (by kernel_rfl) (by kernel_rfl) (by kernel_rfl) rfl rfl (o_assign (by conv => lhs; whnf)) ?_; refine th_take (i := 11) (listed' := #[tt,tt,tt,tt,tt,tt,tt,tt,tt,tt,tt,tt]) rfl (by kernel_rfl) (by kernel_rfl) (by kernel_rfl) rfl rfl (o_assign (by conv => lhs; whnf)) ?_; refine th_done (by kernel_rfl) ?_; refine q_then_n ?_; refine tc_seq ?_; refine sr ?_; refine tlm ?_; refine tv (o_nei rfl rfl) ?_; refine nq ?_; refine tc_cond rfl (fun h => ?_) (fun h => ?_)
  · exfalso; simp at h
  · try simp only [lv1, lv2, lv3, lv4, lv5, lv6, Bool.not_true, Bool.not_false] at h
    refine tc_skip ?_; refine q_then_n ?_; refine sr ?_; refine tlm ?_; refine tl_c rfl (o_call bd38 rfl (Take64_c (xs := ((imgS s).drop p).take 8) (p := 0) (hm := hI))) ?_; rintro _ _ ⟨rfl, rfl⟩; refine tv (o_extract rfl rfl) ?_; refine tv (o_extract rfl rfl) ?_; refine tla ?_; refine tla ?_; refine nq ?_; refine tc_ret ?_; exact ⟨.tuple #[.int .u64 ((nm (((imgS s).drop p).take 8) : Nat) : Int), .int .i64 0], R * Dev d s, res2 rfl (congrArg (fun z : Nat => Value.int .u64 (z : Int)) (nm_take0 _ _)) rfl, Dr.sat (by repeat (first | with_reducible exact dr_refl | apply dr_keep | apply dr_drop)), rfl, rfl⟩
set_option maxRecDepth 20000 in
set_option maxHeartbeats 1000000 in
theorem FL64_no {A R : SP} {C : SP → SP} {d : Nat} {s : DevS} (hc : Ct A (Dev d s) R C := by repeat (first | with_reducible exact ct_here | apply ct_left)) {p : Int} (hp : -9223372036854775808 ≤ p ∧ p ≤ 9223372036854775807 := by omega) (hno : rdy s.ls.length s.off p 8 ≠ 0) :
    Fn Try.prog 67 #[.agg [Value.int .i64 p].toArray, .pointer (some ⟨d, 0, none⟩)] (A) (fun r B => r = .tuple #[.int .u64 0, .int .i64 (rdy s.ls.length s.off p 8)] ∧ A = B) := by
  refine fn_enterW (args := [.agg [Value.int .i64 p].toArray, .pointer (some ⟨d, 0, none⟩)]) Try.func67 rfl Try.ntmps67 (by simp) ?_
  obtain ⟨rfl, hC⟩ := hc
  refine sr ?_; refine tl_x rfl (o_box rfl rfl) ?_; rintro _ _ ⟨b2, rfl, rfl⟩; refine tla ?_; refine tla ?_; refine nq ?_; refine sr ?_; refine tla ?_; refine nq ?_; refine tc_seq ?_; refine tc_regh mo dr_refl ?_
  show TH _ _ _ _ _ 12 #[ff,ff,ff,ff,ff,ff,ff,ff,ff,ff,ff,ff] _ _
  refine th_take (i := 0) (listed' := #[tt,ff,ff,ff,ff,ff,ff,ff,ff,ff,ff,ff]) rfl (by kernel_rfl) (by kernel_rfl) (by kernel_rfl) rfl rfl (o_move (by conv => lhs; whnf)) ?_; refine th_take (i := 1) (listed' := #[tt,tt,ff,ff,ff,ff,ff,ff,ff,ff,ff,ff]) rfl (by kernel_rfl) (by kernel_rfl) (by kernel_rfl) rfl rfl (o_fieldAddr (o := 0) Try.underlying127 rfl rfl sz3 rfl) ?_; refine th_take (i := 2) (listed' := #[tt,tt,tt,ff,ff,ff,ff,ff,ff,ff,ff,ff]) rfl (by kernel_rfl) (by kernel_rfl) (by kernel_rfl) rfl rfl (by first | exact o_load p3 rfl (by repeat (first | with_reducible exact has_here | with_reducible exact has_pt | apply has_left)) rfl | exact o_loadC p3 rfl (by assumption)) ?_; refine th_take (i := 3) (listed' := #[tt,tt,tt,tt,ff,ff,ff,ff,ff,ff,ff,ff]) rfl (by kernel_rfl) (by kernel_rfl) (by kernel_rfl) rfl rfl (o_move (by conv => lhs; whnf)) ?_; refine th_one (i := 4) (by kernel_rfl) ?_; refine oh_c (i := 4) (listed' := #[tt,tt,tt,tt,tt,ff,ff,ff,ff,ff,ff,ff]) rfl rfl rfl (o_call bd50 rfl (Put64_c (xs := []) (v := 0))) ?_; rintro _ _ ⟨a14, c14, rfl, hc14, rfl⟩; refine ⟨by repeat (first | with_reducible exact dr_refl | apply dr_keep | apply dr_drop), ?_⟩; refine th_take (i := 5) (listed' := #[tt,tt,tt,tt,tt,tt,ff,ff,ff,ff,ff,ff]) rfl (by kernel_rfl) (by kernel_rfl) (by kernel_rfl) rfl rfl (o_len Try.underlying22 rfl) ?_; refine th_one (i := 6) (by kernel_rfl) ?_; refine oh_c (i := 6) (listed' := #[tt,tt,tt,tt,tt,tt,tt,ff,ff,ff,ff,ff]) rfl rfl rfl (o_call bd28 rfl (LoadNo_c (s := s) (p := p) (m := 8))) ?_
  rintro _ _ ⟨rfl, rfl⟩; refine ⟨by repeat (first | with_reducible exact dr_refl | apply dr_keep | apply dr_drop), ?_⟩; refine th_take (i := 7) (listed' := #[tt,tt,tt,tt,tt,tt,tt,tt,ff,ff,ff,ff]) rfl (by kernel_rfl) (by kernel_rfl) (by kernel_rfl) rfl rfl (o_move (by conv => lhs; whnf)) ?_; refine th_take (i := 8) (listed' := #[tt,tt,tt,tt,tt,tt,tt,tt,tt,ff,ff,ff]) rfl (by kernel_rfl) (by kernel_rfl) (by kernel_rfl) rfl rfl (o_extract rfl rfl) ?_; refine th_take (i := 9) (listed' := #[tt,tt,tt,tt,tt,tt,tt,tt,tt,tt,ff,ff]) rfl (by kernel_rfl) (by kernel_rfl) (by kernel_rfl) rfl rfl (o_extract rfl rfl) ?_; refine th_take (i := 10) (listed' := #[tt,tt,tt,tt,tt,tt,tt,tt,tt,tt,tt,ff]) rfl (by kernel_rfl) (by kernel_rfl) (by kernel_rfl) rfl rfl (o_assign (by conv => lhs; whnf)) ?_; refine th_take (i := 11) (listed' := #[tt,tt,tt,tt,tt,tt,tt,tt,tt,tt,tt,tt]) rfl (by kernel_rfl) (by kernel_rfl) (by kernel_rfl) rfl rfl (o_assign (by conv => lhs; whnf)) ?_; refine th_done (by kernel_rfl) ?_; refine q_then_n ?_; refine tc_seq ?_; refine sr ?_; refine tlm ?_; refine tv (o_nei rfl rfl) ?_; refine nq ?_; refine tc_cond rfl (fun h => ?_) (fun h => ?_)
  · try simp only [lv1, lv2, lv3, lv4, lv5, lv6, Bool.not_true, Bool.not_false] at h
    refine sr ?_; refine tlm ?_; refine tla ?_; refine tla ?_; refine nq ?_; refine tc_ret ?_; refine q_then_r ?_; exact ⟨.tuple #[.int .u64 0, .int .i64 (rdy s.ls.length s.off p 8)], R * Dev d s, res2 rfl rfl rfl, Dr.sat (by repeat (first | with_reducible exact dr_refl | apply dr_keep | apply dr_drop)), rfl, rfl⟩
  · exfalso; exact hno (by simpa using h)
theorem FL64_c {A R : SP} {C : SP → SP} {d : Nat} {s : DevS} (hc : Ct A (Dev d s) R C := by repeat (first | with_reducible exact ct_here | apply ct_left)) {p : Int} (hp : -9223372036854775808 ≤ p ∧ p ≤ 9223372036854775807 := by omega) : Fn Try.prog 67 #[.agg [Value.int .i64 p].toArray, .pointer (some ⟨d, 0, none⟩)] A (fun r B => r = .tuple #[.int .u64 (((loadP p 8 s).1 : Nat) : Int), .int .i64 (loadP p 8 s).2] ∧ A = B) := by
  by_cases h : rdy s.ls.length s.off p 8 = 0
  · have h0 := rdy0 h
    obtain ⟨q, rfl⟩ := Int.eq_ofNat_of_zero_le h0.2.1
    have e : loadP (q : Int) 8 s = (nm (((imgS s).drop q).take 8), 0) := by unfold loadP; rw [if_neg (by simpa using h)]; rfl
    rw [e]; exact FL64_ok hc h0.1 (by omega)
  · have e : loadP p 8 s = (0, rdy s.ls.length s.off p 8) := by unfold loadP; rw [if_pos (by simpa using h)]; rfl
    rw [e]; exact FL64_no hc hp (by simpa using h)
set_option maxRecDepth 20000 in
set_option maxHeartbeats 1000000 in
theorem Word_c {A R : SP} {C : SP → SP} {d : Nat} {s : DevS} (hc : Ct A (Dev d s) R C := by repeat (first | with_reducible exact ct_here | apply ct_left)) {p : Int} (hp : -9223372036854775808 ≤ p ∧ p ≤ 9223372036854775807 := by omega) :
    Fn Try.prog 52 #[.pointer (some ⟨d, 0, none⟩), .int .i64 p] (A) (fun r B => r = .tuple #[.int .u64 (((wordP p s).1 : Nat) : Int), .int .i64 (wordP p s).2] ∧ A = B) := by
  refine fn_enterW (args := [.pointer (some ⟨d, 0, none⟩), .int .i64 p]) Try.func52 rfl Try.ntmps52 (by simp) ?_; refine sr ?_; refine tla ?_; refine tla ?_; refine nq ?_; refine tc_seq ?_; refine sr ?_; refine tlm ?_; refine tl_c rfl (o_call bd66 rfl (alive_c hc)) ?_; rintro _ _ ⟨rfl, rfl⟩; refine tla ?_; refine nq ?_; refine sr ?_; refine tlm ?_; refine tv (o_nei rfl rfl) ?_; refine nq ?_; refine tc_cond rfl (fun h => ?_) (fun h => ?_)
  · try simp only [lv1, lv2, lv3, lv4, lv5, lv6, Bool.not_true, Bool.not_false] at h
    refine sr ?_; refine tlm ?_; refine tla ?_; refine tla ?_; refine nq ?_; refine tc_ret ?_; refine q_then_r ?_
    have ho := stE_off h
    have e : wordP p s = (0, 5) := by unfold wordP; rw [if_pos ho]
    have e2 : stE s = 5 := by unfold stE; rw [if_pos ho]
    rw [e]
    exact ⟨.tuple #[.int .u64 0, .int .i64 5], A, res2 rfl rfl (congrArg (Value.int .i64) e2), fun _ _ h => h, rfl, rfl⟩
  · have ho : s.off = false := stE_on (by simpa using h)
    refine tc_skip ?_; refine q_then_n ?_; refine tc_seq ?_; refine sr ?_; refine tlm ?_; refine tv (o_rem rfl rfl (by decide)) ?_; refine tv (o_nei rfl rfl) ?_; refine nq ?_; refine tc_cond rfl (fun h => ?_) (fun h => ?_)
    · try simp only [lv1, lv2, lv3, lv4, lv5, lv6, Bool.not_true, Bool.not_false] at h
      refine sr ?_; refine tla ?_; refine tla ?_; refine nq ?_; refine tc_ret ?_; refine q_then_r ?_
      have e : wordP p s = (0, 6) := by unfold wordP; rw [if_neg (by rw [ho]; decide), if_pos (fun e => h (by rw [Int.tmod_eq_zero_of_dvd (Int.dvd_of_emod_eq_zero e)]))]
      rw [e]
      exact ⟨.tuple #[.int .u64 0, .int .i64 6], A, res2 rfl rfl rfl, fun _ _ h => h, rfl, rfl⟩
    · try simp only [lv1, lv2, lv3, lv4, lv5, lv6, Bool.not_true, Bool.not_false] at h
      refine tc_skip ?_; refine q_then_n ?_; refine sr ?_; refine tlm ?_; refine tv (o_bS (l := [Value.int .i64 p]) (pv_cons (by conv => lhs; whnf) pv_nil) Try.underlying127 z127 (pl127 Try.underlying127) rfl) ?_; refine tlm ?_; refine tl_c rfl (o_call bd67 rfl (FL64_c hc (p := p))) ?_; rintro _ _ ⟨rfl, rfl⟩; refine tv (o_extract rfl rfl) ?_; refine tv (o_extract rfl rfl) ?_; refine tla ?_; refine tla ?_; refine nq ?_; refine tc_ret ?_
      have e : wordP p s = loadP p 8 s := by unfold wordP; rw [if_neg (by rw [ho]; decide), if_neg (fun e => e (Int.emod_eq_zero_of_dvd (Int.dvd_of_tmod_eq_zero (by simpa using h))))]
      rw [e]
      exact ⟨_, A, res2 rfl rfl rfl, Dr.sat (by repeat (first | with_reducible exact dr_refl | apply dr_keep | apply dr_drop)), rfl, rfl⟩
end Go.Vl

namespace Go.Vl
open Go Go.Proofs
/-- How many words bytes touch. -/
def cw (p m : Nat) : Nat := if m = 0 then 0 else (p + m - 1) / 8 - p / 8 + 1
theorem spl_nil {α : Type} (l : List α) (p : Nat) : spl l p [] = l := by simp [spl]
/-- The image that the statement begins with. -/
def im (n : Nat) : List Nat := (List.range n).map fun i => (i + 1) % 256
theorem lineF_lb {xs : List Nat} (hb : ∀ x ∈ xs, x < 256) {i : Nat} (hi : i * 64 + 64 ≤ xs.length) : lb (seenL (lineF xs i)) = (xs.drop (i * 64)).take 64 := by
  have e : seenL (lineF xs i) = (List.replicate 8 0).mapIdx fun k _ => wordF xs i k := by simp [seenL, lineF]
  rw [e]
  have key : ∀ k, k ≤ 8 → lb (((List.replicate 8 0).mapIdx fun k _ => wordF xs i k).take k) = (xs.drop (i * 64)).take (k * 8) := by
    intro k
    induction k with
    | zero => intro _; simp [lb]
    | succ k ih =>
      intro hk
      rw [lb_take (by simp; omega), ih (by omega)]
      simp only [List.getElem_mapIdx, wordF]
      have h1 := le_nm ((xs.drop (i * 64 + k * 8)).take 8) (fun x hx => hb x (List.mem_of_mem_drop (List.mem_of_mem_take hx)))
      rw [List.length_take, List.length_drop, Nat.min_eq_left (by omega)] at h1
      rw [h1, show (k + 1) * 8 = k * 8 + 8 by omega, List.take_add, List.drop_drop]
  have := key 8 (by omega)
  rwa [List.take_of_length_le (by simp)] at this
theorem img_from {n : Nat} {xs : List Nat} (hb : ∀ x ∈ xs, x < 256) (hl : xs.length = n * 64) : imgS (fromS n xs) = xs := by
  have e : imgS (fromS n xs) = ((List.range n).map fun i => (xs.drop (i * 64)).take 64).flatten := by
    unfold imgS img fromS
    rw [List.flatMap_def]
    congr 1
    apply List.ext_getElem
    · simp [newS]
    · intro j h1 h2
      simp only [List.length_map, List.length_mapIdx, List.length_range] at h1 h2
      simp only [List.getElem_map, List.getElem_mapIdx, List.getElem_range]
      exact lineF_lb hb (by omega)
  rw [e]
  have key : ∀ k, k ≤ n → ((List.range k).map fun i => (xs.drop (i * 64)).take 64).flatten = xs.take (k * 64) := by
    intro k
    induction k with
    | zero => intro _; simp
    | succ k ih =>
      intro hk
      rw [List.range_succ, List.map_append, List.flatten_append, ih (by omega)]
      simp only [List.map_cons, List.map_nil, List.flatten_cons, List.flatten_nil, List.append_nil]
      rw [show (k + 1) * 64 = k * 64 + 64 by omega, List.take_add]
  rw [key n (Nat.le_refl _), ← hl, List.take_length]
theorem spl_mid {l b : List Nat} {p : Nat} (h : p + b.length ≤ l.length) : ((spl l p b).drop p).take b.length = b := by
  apply List.ext_getElem?
  intro i
  rw [List.getElem?_take]
  split
  · rw [List.getElem?_drop, spl_at h, if_pos (by omega)]; congr 1; omega
  · rw [List.getElem?_eq_none (by omega)]
end Go.Vl

namespace Go.Vl
open Go Go.Proofs
/-! ### What all contents of the lines of a range have in common -/
/-- All contents of all lines have the bytes c from at_ on. -/
def Ag (at_ : Nat) (c : List Nat) (s : DevS) : Prop := ∀ x, x < c.length → ∀ l, s.ls[(at_ + x) / 64]? = some l → ∀ σ ∈ l.st, (lb σ)[(at_ + x) % 64]? = c[x]?
def AgI (at_ : Nat) (c : List Nat) (I : List Nat) : Prop := ∀ x, x < c.length → I[at_ + x]? = c[x]?
/-! ### Lines are flushed -/
/-- Lines from q on, k of them, flushed. -/
def flsh (k q : Nat) (ls : List LineS) : List LineS := ls.mapIdx fun i l => if q ≤ i ∧ i < q + k then flushL l else l
end Go.Vl

namespace Go.Vl
open Go Go.Proofs
/-- Every line has one content alone. -/
def Cln (s : DevS) : Prop := ∀ l ∈ s.ls, l.st.length = 1
def chunk (q : Nat) (I : List Nat) : List Nat := (I.drop (q * 64)).take 64
/-- Every content of every line is as X says. -/
def Poss (X : Nat → List Nat → Prop) (s : DevS) : Prop := ∀ (q : Nat) (l : LineS), s.ls[q]? = some l → ∀ σ ∈ l.st, X q (lb σ)
theorem img_chk {s : DevS} (hw : WfD s) {q : Nat} (hq : q < s.ls.length) : chunk q (imgS s) = lb (seenL s.ls[q]) := by
  have h1 := img_at hw.line hq
  unfold chunk imgS
  rw [h1, ← seen8 (hw.line _ (List.getElem_mem hq)), List.take_left]
theorem poss_img {X : Nat → List Nat → Prop} {s : DevS} (hw : WfD s) (h : Poss X s) {q : Nat} (hq : q < s.ls.length) : X q (chunk q (imgS s)) := by
  rw [img_chk hw hq]; exact h q _ (List.getElem?_eq_getElem hq) _ (seenL_mem (hw.line _ (List.getElem_mem hq)))
theorem poss_sub {X : Nat → List Nat → Prop} {s s' : DevS} (h : Poss X s) (hs : ∀ (q : Nat) (l' : LineS), s'.ls[q]? = some l' → ∃ l : LineS, s.ls[q]? = some l ∧ ∀ σ ∈ l'.st, σ ∈ l.st) : Poss X s' := fun q l' hl' σ hσ => by
  obtain ⟨l, hl, hsub⟩ := hs _ _ hl'
  exact h q l hl σ (hsub σ hσ)
theorem goes_sub {kp : List Int} {s : DevS} (hw : WfD s) (q : Nat) (l' : LineS) (hl' : (goesS kp s).ls[q]? = some l') : ∃ l : LineS, s.ls[q]? = some l ∧ (∀ σ ∈ l'.st, σ ∈ l.st) ∧ l'.st.length = 1 := by
  simp only [goesS, goPart, List.getElem?_mapIdx] at hl'
  cases e : s.ls[q]? with
  | none => rw [e] at hl'; cases hl'
  | some l =>
    rw [e] at hl'
    simp only [Option.map_some, Option.some.injEq] at hl'
    have hq := (List.getElem?_eq_some_iff.1 e).1
    subst hl'
    rw [if_pos hq]
    refine ⟨l, rfl, fun σ hσ => ?_, rfl⟩
    have hp : 0 < l.st.length := List.length_pos_iff.2 (hw.line l (List.mem_of_getElem? e)).ne
    have hk := kOf_lt (keep := kp) (i := q) hp
    simp only [goL, List.mem_singleton] at hσ
    rw [hσ]; simp [List.getD, hk]
theorem goes_poss {kp : List Int} {s : DevS} {X : Nat → List Nat → Prop} (hw : WfD s) (h : Poss X s) : Poss X (goesS kp s) := poss_sub h fun q l' hl' => by
  obtain ⟨l, h1, h2, _⟩ := goes_sub hw q l' hl'; exact ⟨l, h1, h2⟩
theorem goes_cln {kp : List Int} {s : DevS} (hw : WfD s) : Cln (goesS kp s) := fun l hl => by
  obtain ⟨q, hq, rfl⟩ := List.mem_iff_getElem.1 hl
  obtain ⟨_, _, _, h⟩ := goes_sub hw q _ (List.getElem?_eq_getElem hq); exact h
/-- The state behind a loss. -/
def Lost (X : Nat → List Nat → Prop) (n : Nat) (s : DevS) : Prop := s.off = true ∧ WfD s ∧ Cln s ∧ Poss X s ∧ s.ls.length = n
theorem done_loss {X : Nat → List Nat → Prop} {s : DevS} (hw : WfD s) (h : Poss X s) : (doneE s = 0 ∧ (doneS s).ls = s.ls ∧ (doneS s).off = s.off) ∨ (doneE s = 5 ∧ Lost X s.ls.length (doneS s)) := by
  have hw' := doneS_wf hw
  have hl := doneS_len s
  unfold Lost doneE doneS at *
  cases e : s.arms with
  | nil => exact .inl ⟨rfl, rfl, rfl⟩
  | cons a ar =>
    simp only [e] at hw' hl ⊢
    by_cases c : wr64 (s.cnt + 1) < a.1
    · rw [if_pos c, if_pos c]; exact .inl ⟨rfl, rfl, rfl⟩
    · rw [if_neg c] at hw' hl
      rw [if_neg c, if_neg c]
      have hw2 : WfD { s with ops := wr64 (s.ops + 1), arms := ar, cnt := 0 } := by
        refine ⟨hw.pos, hw.top, hw.line, ?_, ?_, ?_⟩
        · have := hw.arms; rw [e] at this; simp at this ⊢; omega
        · intro x hx; exact hw.after x (by rw [e]; exact List.mem_cons_of_mem _ hx)
        · intro x hx; exact hw.keeps x (by rw [e]; exact List.mem_cons_of_mem _ hx)
      exact .inr ⟨rfl, rfl, hw', goes_cln hw2, goes_poss hw2 h, hl⟩
/-- What holds behind a store that went well, seen from before. -/
def Went (X : Nat → List Nat → Prop) (p m : Nat) (s s2 : DevS) : Prop := s2.off = false ∧ WfD s2 ∧ Poss X s2 ∧ s2.ls.length = s.ls.length ∧ ∀ q : Nat, (q + 1) * 64 ≤ p ∨ p + m ≤ q * 64 → s2.ls[q]? = s.ls[q]?
end Go.Vl
