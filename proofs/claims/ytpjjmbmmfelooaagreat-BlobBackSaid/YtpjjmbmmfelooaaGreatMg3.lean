/- What the row rests on, part 3: a calculus of assertions, walks of functions over it, and plain laws. Conditions: none. -/
import Derived.Deep.QuietTactic
import Derived.BigQuiet
import Derived.WalkKit
import Derived.Test.YtpjjmbmmfelooaaGreatProg
import Derived.OrdersHeld
import Derived.Shelf.SortM.SortNone
import Derived.Shelf.SortM.Plain
import Derived.Ground.SlgmProg
import Derived.Shelf.SlIterI.Nil
import Derived.Ground.GgzProg
import Derived.Maps.RangeRun
import Derived.Laws.BytesArg
import Derived.RangeFuncRecord
import Derived.TacticsIn
import Derived.Deep.Slices
import Derived.OpenShut
import Derived.ChangeArms
import Derived.SizedLaws
import Derived.ChangeSame
import Derived.Test.YtpjjmbmmfelooaaGreatRows
import Derived.Sort.QuietThIn
import Derived.ScopeJumps
import Derived.LaidEqlPtr
import Derived.Lib.Builder
import Derived.Lib.UnsafeStr
import Derived.Laws.Strings
import Derived.Test.YtpjjmbmmfelooaaGreatMg2
set_option linter.unusedVariables false
set_option linter.unusedSimpArgs false
namespace Go.Vl
open Go Go.Proofs
theorem fn_rdevR {P : Program} {f : FuncId} {args : Array Value} {F : SP} {r : Nat} {s : DevS} {q : Value → SP → Prop}
    (h : ∀ A lv rls av, RdevR A r lv rls av s → Fn P f args A fun v B => ∃ X, B = A * X ∧ q v X) :
    Fn P f args (F * RDev r s) fun v B => ∃ X, B = F * RDev r s * X ∧ q v X := fun g w hs => by
  obtain ⟨hw, lv, rls, av, kvs, h1, h2, hs'⟩ := rdev_iff.1 hs
  refine (h _ lv rls av (rdevR_of hw h1 hs') g w hs').mono ?_; rintro e w' ⟨v, B, e1, ⟨X, rfl, hq⟩, hB⟩; refine ⟨v, _, e1, ⟨X, rfl, hq⟩, ?_⟩
  have h3 := rdev_back (R := F * X) hw h1 h2 _ _ (hB.perm (star_swap _ _ _))
  exact h3.perm (star_swap _ _ _)
theorem rcl_at0 {l : List RL} {i : Nat} (h : i < l.length) : (l.flatMap rcl)[i * 2 + 0]? = some l[i].v := by rw [fm_atj (rcl_len l) h (by decide) rfl]; rfl
section
variable {A : SP} {r : Nat} {lv av : Value} {rls : List RL} {s : DevS}
theorem RdevR.pos (h : RdevR A r lv rls av s) {i : Nat} (hi : i < rls.length) : 0 < rls[i].rows.length := by
  have h' : i < s.ls.length := by rw [← h.len]; exact hi
  rw [h.rows hi h']
  exact List.length_pos_iff.2 (h.wf.line _ (List.getElem_mem h')).ne
theorem RdevR.small (h : RdevR A r lv rls av s) {i : Nat} (hi : i < rls.length) : rls[i].rows.length ≤ 2199023255552 := by
  have h' : i < s.ls.length := by rw [← h.len]; exact hi
  rw [h.rows hi h']
  exact (h.wf.line _ (List.getElem_mem h')).small
/-- The content that is seen. -/
theorem RdevR.top (h : RdevR A r lv rls av s) {i : Nat} (hi : i < rls.length) (hi' : i < s.ls.length) : ∃ b o c, (rls[i].rows.map Prod.fst)[rls[i].rows.length - 1]? = some (.slice (some ⟨b, o, none⟩) 64 c) ∧ 64 ≤ c ∧ Rs A (some ⟨b, o, none⟩) (bys (lb (seenL s.ls[i]))) := by
  have hp := h.pos hi
  obtain ⟨b, o, c, e1, e2, e3⟩ := h.row i hi (rls[i].rows.length - 1) (by omega)
  refine ⟨b, o, c, ?_, e2, ?_⟩
  · rw [List.getElem?_map, List.getElem?_eq_getElem (by omega)]; simp [e1]
  · rw [h.snd hi hi' (by omega)] at e3
    have e : seenL s.ls[i] = s.ls[i].st[rls[i].rows.length - 1]'(by rw [← h.rows hi hi']; omega) := by
      unfold seenL; simp only [← h.rows hi hi']
      simp [List.getD, show rls[i].rows.length - 1 < s.ls[i].st.length by rw [← h.rows hi hi']; omega]
    rw [e]; exact e3
theorem RdevR.allC (h : RdevR A r lv rls av s) {i : Nat} (hi : i < rls.length) : ∃ b o c, (rls.flatMap rcl)[i * 2 + 0]? = some (.slice (some ⟨b, o, none⟩) rls[i].rows.length c) ∧ rls[i].rows.length ≤ c ∧ Rs A (some ⟨b, o, none⟩) (rls[i].rows.map Prod.fst) := by
  obtain ⟨b, o, c, e1, e2, e3⟩ := h.all i hi
  exact ⟨b, o, c, by rw [rcl_at0 hi, e1], e2, e3⟩
end
attribute [local irreducible] Sl pt ro imgS
theorem rfits_c {A : SP} {p : Int} :
    Fn Tryz.prog 115 #[.int .i64 p] (A) (fun r B => r = .bool (fitsB p) ∧ A = B) := by
  refine fn_enterW (args := [.int .i64 p]) Tryz.func115 rfl Tryz.ntmps115 (by simp) ?_; refine sr ?_; refine tla ?_; refine nq ?_; refine sr ?_; refine tlm ?_; refine tv (o_geq rfl rfl) ?_; refine tlm ?_; refine tl_bool (d := 5) rfl (fun h => ?_) (fun h => ?_)
  · try simp only [lv1, lv2, lv3, lv4, lv5, lv6, Bool.not_true, Bool.not_false] at h
    refine tlm ?_; refine tv (o_leq rfl rfl) ?_; refine tv (o_pick_t rfl (by conv => lhs; whnf)) ?_; refine tlm ?_; refine tl_bool (d := 9) rfl (fun h => ?_) (fun h => ?_)
    · try simp only [lv1, lv2, lv3, lv4, lv5, lv6, Bool.not_true, Bool.not_false] at h
      refine tlm ?_; refine tv (by first | exact o_remI rfl rfl (by omega) | exact o_rem rfl rfl (by omega)) ?_; refine tv (o_eqi rfl rfl) ?_; refine tv (o_pick_t rfl (by conv => lhs; whnf)) ?_; refine tla ?_; refine nq ?_; refine tc_ret ?_; refine ⟨.bool (decide (p % 64 = 0)), _, res1 rfl rfl, ?_, by unfold fitsB; congr 1; rw [decide_eq_decide]; omega, rfl⟩; exact Dr.sat (by repeat (first | with_reducible exact dr_refl | apply dr_keep | apply dr_drop))
    · try simp only [lv1, lv2, lv3, lv4, lv5, lv6, Bool.not_true, Bool.not_false] at h
      refine tk ?_; refine tk ?_; refine tk ?_; refine tv (o_pick_f rfl (by conv => lhs; whnf)) ?_; refine tla ?_; refine nq ?_; refine tc_ret ?_; refine ⟨.bool false, _, res1 rfl rfl, ?_, by unfold fitsB; rw [decide_eq_false (by omega)], rfl⟩; exact Dr.sat (by repeat (first | with_reducible exact dr_refl | apply dr_keep | apply dr_drop))
  · try simp only [lv1, lv2, lv3, lv4, lv5, lv6, Bool.not_true, Bool.not_false] at h
    refine tk ?_; refine tk ?_; refine tv (o_pick_f rfl (by conv => lhs; whnf)) ?_; refine tlm ?_; refine tk ?_; refine tk ?_; refine tk ?_; refine tv (o_pick_f rfl (by conv => lhs; whnf)) ?_; refine tla ?_; refine nq ?_; refine tc_ret ?_; refine ⟨.bool false, _, res1 rfl rfl, ?_, by unfold fitsB; rw [decide_eq_false (by omega)], rfl⟩; exact Dr.sat (by repeat (first | with_reducible exact dr_refl | apply dr_keep | apply dr_drop))
theorem rinside_f (A : SP) {r : Nat} {lv av : Value} {rls : List RL} {s : DevS} (hR : RdevR A r lv rls av s) {p m : Int} (hp : -9223372036854775808 ≤ p ∧ p ≤ 9223372036854775807) (hm : -9223372036854775808 ≤ m ∧ m ≤ 9223372036854775807) :
    Fn Tryz.prog 180 #[.pointer (some ⟨r, 0, none⟩), .int .i64 p, .int .i64 m] (A) (fun v B => v = .bool (decide (rdy s.ls.length false p m = 0)) ∧ A = B) := by
  refine fn_enterW (args := [.pointer (some ⟨r, 0, none⟩), .int .i64 p, .int .i64 m]) Tryz.func180 rfl Tryz.ntmps180 (by simp) ?_
  have htop := hR.wf.top
  refine sr ?_; refine tla ?_; refine nq ?_; refine sr ?_; refine tlm ?_; refine tv (o_geq rfl rfl) ?_; refine tlm ?_; refine tl_bool (d := 9) rfl (fun h => ?_) (fun h => ?_)
  · try simp only [lv1, lv2, lv3, lv4, lv5, lv6, Bool.not_true, Bool.not_false] at h
    refine tlm ?_; refine tv (o_geq rfl rfl) ?_; refine tv (o_pick_t rfl (by conv => lhs; whnf)) ?_; refine tlm ?_; refine tl_bool (d := 13) rfl (fun h => ?_) (fun h => ?_)
    · try simp only [lv1, lv2, lv3, lv4, lv5, lv6, Bool.not_true, Bool.not_false] at h
      refine tlm ?_; refine tlm ?_; refine tv (o_nilCheck rfl) ?_; refine tv (o_fieldAddr (o := 0) Tryz.underlying195 rfl rfl sz3 rfl) ?_; refine tv (o_ldP (a := some ⟨r, 0, none⟩) (i := 0) p3 rfl (by repeat (first | exact hR.d | apply Rs.left)) rfl) ?_; refine tv (o_leq rfl rfl) ?_; refine tv (o_pick_t rfl (by conv => lhs; whnf)) ?_; refine tlm ?_; refine tl_bool (d := 21) rfl (fun h => ?_) (fun h => ?_)
      · try simp only [lv1, lv2, lv3, lv4, lv5, lv6, Bool.not_true, Bool.not_false] at h
        refine tlm ?_; refine tlm ?_; refine tv (o_nilCheck rfl) ?_; refine tv (o_fieldAddr (o := 0) Tryz.underlying195 rfl rfl sz3 rfl) ?_; refine tv (o_ldP (a := some ⟨r, 0, none⟩) (i := 0) p3 rfl (by repeat (first | exact hR.d | apply Rs.left)) rfl) ?_; refine tlm ?_; refine tv (by first | exact o_subI rfl rfl (by omega) | exact o_sub rfl rfl) ?_; refine tv (o_leq rfl rfl) ?_; refine tv (o_pick_t rfl (by conv => lhs; whnf)) ?_; refine tla ?_; refine nq ?_; refine tc_ret ?_; refine ⟨.bool (decide (m ≤ ((s.ls.length * 64 : Nat) : Int) - p)), _, res1 rfl rfl, ?_, (by congr 1; rw [decide_eq_decide]; unfold rdy; rw [if_neg (by decide)]; split <;> constructor <;> intro _ <;> omega), rfl⟩; exact Dr.sat (by repeat (first | with_reducible exact dr_refl | apply dr_keep | apply dr_drop))
      · try simp only [lv1, lv2, lv3, lv4, lv5, lv6, Bool.not_true, Bool.not_false] at h
        refine tk ?_; refine tk ?_; refine tk ?_; refine tk ?_; refine tk ?_; refine tk ?_; refine tk ?_; refine tk ?_; refine tv (o_pick_f rfl (by conv => lhs; whnf)) ?_; refine tla ?_; refine nq ?_; refine tc_ret ?_; refine ⟨.bool false, _, res1 rfl rfl, ?_, (by rw [decide_eq_false]; unfold rdy; rw [if_neg (by decide), if_pos (by omega)]; decide), rfl⟩; exact Dr.sat (by repeat (first | with_reducible exact dr_refl | apply dr_keep | apply dr_drop))
    · try simp only [lv1, lv2, lv3, lv4, lv5, lv6, Bool.not_true, Bool.not_false] at h
      refine tk ?_; refine tk ?_; refine tk ?_; refine tk ?_; refine tk ?_; refine tk ?_; refine tv (o_pick_f rfl (by conv => lhs; whnf)) ?_; refine tlm ?_; refine tk ?_; refine tk ?_; refine tk ?_; refine tk ?_; refine tk ?_; refine tk ?_; refine tk ?_; refine tk ?_; refine tv (o_pick_f rfl (by conv => lhs; whnf)) ?_; refine tla ?_; refine nq ?_; refine tc_ret ?_; refine ⟨.bool false, _, res1 rfl rfl, ?_, (by rw [decide_eq_false]; unfold rdy; rw [if_neg (by decide), if_pos (by omega)]; decide), rfl⟩; exact Dr.sat (by repeat (first | with_reducible exact dr_refl | apply dr_keep | apply dr_drop))
  · try simp only [lv1, lv2, lv3, lv4, lv5, lv6, Bool.not_true, Bool.not_false] at h
    refine tk ?_; refine tk ?_; refine tv (o_pick_f rfl (by conv => lhs; whnf)) ?_; refine tlm ?_; refine tk ?_; refine tk ?_; refine tk ?_; refine tk ?_; refine tk ?_; refine tk ?_; refine tv (o_pick_f rfl (by conv => lhs; whnf)) ?_; refine tlm ?_; refine tk ?_; refine tk ?_; refine tk ?_; refine tk ?_; refine tk ?_; refine tk ?_; refine tk ?_; refine tk ?_; refine tv (o_pick_f rfl (by conv => lhs; whnf)) ?_; refine tla ?_; refine nq ?_; refine tc_ret ?_; refine ⟨.bool false, _, res1 rfl rfl, ?_, (by rw [decide_eq_false]; unfold rdy; rw [if_neg (by decide), if_pos (by omega)]; decide), rfl⟩; exact Dr.sat (by repeat (first | with_reducible exact dr_refl | apply dr_keep | apply dr_drop))
theorem rseen_f (A : SP) {r : Nat} {lv av : Value} {rls : List RL} {s : DevS} (hR : RdevR A r lv rls av s) {i b o c : Nat} (hi : i < rls.length) (ht : (rls[i].rows.map Prod.fst)[rls[i].rows.length - 1]? = some (.slice (some ⟨b, o, none⟩) 64 c)) :
    Fn Tryz.prog 126 #[.pointer (some ⟨r, 0, none⟩), .int .i64 (i : Nat)] (A) (fun v B => v = .slice (some ⟨b, o, none⟩) 64 c ∧ A = B) := by
  refine fn_enterW (args := [.pointer (some ⟨r, 0, none⟩), .int .i64 (i : Nat)]) Tryz.func126 rfl Tryz.ntmps126 (by simp) ?_
  obtain ⟨bl, ol, cl_, rfl, hlc, hlr⟩ := hR.lv
  obtain ⟨ba, oa, ca, g1, hca, har⟩ := hR.allC hi
  have hlen := hR.len
  have hpos := hR.pos hi
  have hsm := hR.small hi
  refine sr ?_; refine tla ?_; refine nq ?_; refine sr ?_; refine tlm ?_; refine tv (o_nilCheck rfl) ?_; refine tv (o_fieldAddr (o := 1) Tryz.underlying195 rfl rfl sz193 rfl) ?_; refine tv (o_ldP (a := some ⟨r, 0, none⟩) (i := 1) p193 rfl (by repeat (first | exact hR.d | apply Rs.left)) rfl) ?_; refine tlm ?_; refine tv (o_ixP Tryz.underlying193 sz197 rfl rfl (by first | omega | (simp only [bys_length, ints_length, wds_length, bos_length, List.length_append, List.length_take, List.length_drop, List.length_singleton]; omega)) (by repeat (first | exact nn_some | with_reducible exact nn_sl (by decide) | exact nn_rs (by assumption) (fun _ => by first | omega | (simp only [bys_length, ints_length, wds_length, bos_length, List.length_append, List.length_take, List.length_drop, List.length_singleton]; omega)) | apply Nn.left))) ?_; refine tv (o_faP (m := 0) (o := 0) Tryz.underlying197 rfl rfl sz41 rfl (by repeat (first | exact nn_some | with_reducible exact nn_sl (by decide) | exact nn_rs (by assumption) (fun _ => by first | omega | (simp only [bys_length, ints_length, wds_length, bos_length, List.length_append, List.length_take, List.length_drop, List.length_singleton]; omega)) | apply Nn.left))) ?_; refine tv (o_ldP p41 rfl (by repeat (first | assumption | with_reducible exact rs_sl | with_reducible exact rs_pt0 | exact rs_none | apply Rs.left)) (by first | assumption | exact bys_at (by omega) | exact ints_at (by omega) | exact wds_at (by omega) | exact bos_at (by omega) | rfl)) ?_
  refine tl_env (d := 13) (v := .slice (some ⟨ba, oa, none⟩) rls[i].rows.length ca) (rfl) ?_; refine tla ?_; refine nq ?_; refine sr ?_; refine tlm ?_; refine tlm ?_; refine tv (o_len Tryz.underlying41 rfl) ?_; refine tv (by first | exact o_subI rfl rfl (by omega) | exact o_sub rfl rfl) ?_; refine tl_env (d := 17) (v := .int .i64 ((rls[i].rows.length - 1 : Nat) : Int)) (by show Value.int .i64 _ = _; congr 1; omega) ?_; refine tv (o_ixP1 Tryz.underlying41 sz57 rfl rfl (by omega) nn_some) ?_; refine tv (o_ldP p57 rfl har ht) ?_; refine tla ?_; refine nq ?_; refine tc_ret ?_; refine ⟨_, _, res1 rfl rfl, ?_, rfl, rfl⟩; exact Dr.sat (by repeat (first | with_reducible exact dr_refl | apply dr_keep | apply dr_drop))
end Go.Vl

namespace Go.Vl
open Go Go.Proofs
theorem img_getR {s : DevS} {q : Nat} (hw : WfD s) (hi : q / 64 < s.ls.length) : (imgS s)[q]? = (lb (seenL s.ls[q / 64]))[q % 64]? := by
  have hwl := hw.line _ (List.getElem_mem hi)
  have h8 := seen8 hwl
  have e := img_at hw.line hi
  have h1 : (imgS s)[q]? = ((imgS s).drop (q / 64 * 64))[q % 64]? := by rw [List.getElem?_drop]; congr 1; omega
  rw [h1]; unfold imgS; rw [e, List.getElem?_append_left (by omega)]
theorem fromS_len (n : Nat) (xs : List Nat) : (fromS n xs).ls.length = n := by simp [fromS, newS]
theorem fromS_at {n : Nat} (xs : List Nat) {i : Nat} (h : i < n) : (fromS n xs).ls[i]'(by rw [fromS_len]; exact h) = lineF xs i := by simp [fromS]
attribute [local irreducible] Sl pt ro
theorem rLoad_f (A : SP) {r : Nat} {lv av : Value} {rls : List RL} {s : DevS} (hR : RdevR A r lv rls av s) {p m : Nat} (hoff : s.off = false) (hpm : p + m ≤ s.ls.length * 64) :
    Fn Tryz.prog 174 #[.pointer (some ⟨r, 0, none⟩), .int .i64 (p : Nat), .int .i64 (m : Nat)] (A) (fun v B => ∃ X, B = A * X ∧ ∃ a c, v = .tuple #[.slice a m c, .int .i64 0] ∧ m ≤ c ∧ X = Sl 1 (.slice a m c) m (bys (((imgS s).drop p).take m))) := by
  refine fn_enterW (args := [.pointer (some ⟨r, 0, none⟩), .int .i64 (p : Nat), .int .i64 (m : Nat)]) Tryz.func174 rfl Tryz.ntmps174 (by simp) ?_
  obtain ⟨bl, ol, cl_, rfl, hlc, hlr⟩ := hR.lv
  have hlen := hR.len
  have htop := hR.wf.top
  have hil := img_length hR.wf.line
  refine sr ?_; refine tla ?_; refine tla ?_; refine nq ?_; refine tc_seq ?_; refine sr ?_; refine tlm ?_; refine tv (o_nilCheck rfl) ?_; refine tv (o_fieldAddr (o := 5) Tryz.underlying195 rfl rfl sz4 rfl) ?_; refine tv (o_ldP (a := some ⟨r, 0, none⟩) (i := 5) p4 rfl (by repeat (first | exact hR.d | apply Rs.left)) rfl) ?_; refine nq ?_; refine tc_cond rfl (fun h => ?_) (fun h => ?_)
  · exfalso; rw [hoff] at h; cases h
  · try simp only [lv1, lv2, lv3, lv4, lv5, lv6, Bool.not_true, Bool.not_false] at h
    refine tc_skip ?_; refine q_then_n ?_; refine tc_seq ?_; refine sr ?_; refine tlm ?_; refine tlm ?_; refine tlm ?_; refine tl_c rfl (o_call bd180 rfl (rinside_f _ hR (by omega) (by omega))) ?_; rintro _ _ ⟨rfl, rfl⟩; refine tv (o_not rfl) ?_; refine nq ?_; refine tc_cond rfl (fun h => ?_) (fun h => ?_)
    · exfalso; simp at h; unfold rdy at h; rw [if_neg (by decide), if_neg (by omega)] at h; exact h rfl
    · try simp only [lv1, lv2, lv3, lv4, lv5, lv6, Bool.not_true, Bool.not_false] at h
      refine tc_skip ?_; refine q_then_n ?_; refine sr ?_; refine tla ?_; refine nq ?_; refine tc_seq ?_; refine tc_seq ?_; refine tc_pre (A' := A * Sl 1 (.slice none 0 0) 0 []) (fun _ _ h => sl_nil h) ?_; refine tc_reg ?_; refine tlm ?_; refine tla ?_; refine nq ?_; refine tc_block ?_; refine tc_loop (fun kk ρ BB => ∃ (j : Nat) (a3 : Option Addr) (c3 : Nat), (j ≤ m) ∧ (j ≤ c3) ∧ kk = m - j ∧ ρ 8 = .slice a3 j c3 ∧ ρ 9 = .int .i64 ((p + j : Nat) : Int) ∧ ρ 0 = .pointer (some ⟨r, 0, none⟩) ∧ ρ 1 = .int .i64 (p : Nat) ∧ ρ 2 = .int .i64 (m : Nat) ∧ BB = A * Sl 1 (.slice a3 j c3) j (bys (((imgS s).drop p).take j))) (m := m - (0)) ?_ ?_
      · exact ⟨0, none, 0, by omega, by omega, rfl, rfl, rfl, rfl, rfl, rfl, rfl⟩
      · intro k ρ B hI
        obtain ⟨j, a3, c3, hp0, hp1, hkk1, hE8, hE9, hE0, hE1, hE2, rfl⟩ := hI
        refine tc_env (d := 8) hE8 ?_; refine tc_env (d := 9) hE9 ?_; refine tc_env (d := 0) hE0 ?_; refine tc_env (d := 1) hE1 ?_; refine tc_env (d := 2) hE2 ?_
        clear hE8 hE9 hE0 hE1 hE2
        refine tc_seq ?_; refine sr ?_; refine tlm ?_; refine tlm ?_; refine tlm ?_; refine tv (by first | exact o_addI rfl rfl (by omega) | exact o_add rfl rfl) ?_; refine tv (o_lss rfl rfl) ?_; refine nq ?_; refine tc_cond rfl (fun h => ?_) (fun h => ?_)
        · have hj : j < m := by simp at h; omega
          have hi : (p + j) / 64 < s.ls.length := by omega
          have hir : (p + j) / 64 < rls.length := by omega
          obtain ⟨br, orr, cr, ht, hcr, hrr⟩ := hR.top hir hi
          have hs8 := seen8 (hR.wf.line _ (List.getElem_mem hi))
          have hjd : j < ((imgS s).drop p).length := by rw [List.length_drop]; unfold imgS; omega
          have hby : ((imgS s).drop p)[j] = (lb (seenL s.ls[(p + j) / 64]))[(p + j) % 64]'(by omega) := by
            have := img_getR hR.wf hi
            rw [List.getElem?_eq_getElem (show (p + j) % 64 < (lb (seenL s.ls[(p + j) / 64])).length by omega), ← List.getElem?_drop, List.getElem?_eq_getElem hjd] at this
            exact Option.some.inj this
          refine tc_skip ?_; refine q_then_n ?_; refine tc_seq ?_; refine tc_block ?_; refine tc_reg ?_; refine tlm ?_; refine tlm ?_; refine tlm ?_; refine tv (o_quoN (b := 64) rfl rfl (by omega)) ?_; refine tl_c rfl (o_call bd126 rfl (rseen_f _ hR.left (i := (p + j) / 64) hir ht)) ?_; rintro _ _ ⟨rfl, rfl⟩; refine tlm ?_; refine tv (o_remN (b := 64) rfl rfl (by omega)) ?_; refine tv (o_ixP1 Tryz.underlying57 sz5 rfl rfl (by first | omega | (simp only [bys_length, ints_length, wds_length, bos_length, List.length_append, List.length_take, List.length_drop, List.length_singleton]; omega)) (by repeat (first | exact nn_some | with_reducible exact nn_sl (by decide) | exact nn_rs (by assumption) (fun _ => by first | omega | (simp only [bys_length, ints_length, wds_length, bos_length, List.length_append, List.length_take, List.length_drop, List.length_singleton]; omega)) | apply Nn.left))) ?_; refine tv (o_ldP p5 rfl hrr.left (bys_at (by omega))) ?_; refine tl_x rfl (o_buildSlice1 Tryz.underlying57 sz5 z5 (by conv => lhs; whnf) rfl) ?_; rintro _ _ ⟨b36, rfl, rfl⟩; refine tl_x rfl (o_apB Tryz.underlying57 Tryz.underlying57 sz5 by5 z5 rfl (by decide) (by decide) rfl rfl rfl (by repeat (first | with_reducible exact ct_here | apply ct_left)) rfl (by first | exact bys_all _ | exact ints_all _ | exact wds_all _ | exact bos_all _ | rfl) (by first | omega | (simp only [bys_length, ints_length, wds_length, bos_length, List.length_append, List.length_take, List.length_drop, List.length_singleton]; omega)) (by first | exact bys_sn _ _ | exact ints_sn _ _ | exact wds_sn _ _ | exact bos_sn _ _ | exact (bys_append _ _).symm | rfl)) ?_
          rintro _ _ ⟨a37, c37, rfl, hc37, rfl⟩; refine tla ?_; refine tl_nil ?_; refine q_block_n (q_then_n ?_); refine tc_reg ?_; refine tlm ?_; refine tv (by first | exact o_addI rfl rfl (by omega) | exact o_add rfl rfl) ?_; refine tl_env (d := 26) (v := .int .i64 ((p + (j + 1) : Nat) : Int)) (rfl) ?_; refine tla ?_; refine nq ?_; exact ⟨_, by omega, j + 1, a37, c37, by omega, by omega, rfl, rfl, rfl, rfl, rfl, rfl, by rw [List.take_succ_eq_append_getElem hjd, hby]⟩
        · obtain rfl : j = m := by simp at h; omega
          refine tc_exit ?_; refine q_then_e (q_then_e (q_block_x (q_then_n ?_))); refine sr ?_; refine tlm ?_; refine tla ?_; refine tla ?_; refine nq ?_; refine tc_ret ?_; exact ⟨.tuple #[.slice a3 j c3, .int .i64 0], _, res2 rfl rfl rfl, fun _ _ h => h, _, rfl, a3, c3, rfl, hp1, rfl⟩
set_option maxRecDepth 20000 in
set_option maxHeartbeats 1000000 in
theorem rFrom_c {F : SP} {a : Option Addr} {c m : Nat} {xs : List Nat} (n : Nat) (hr : Rs F a (bys xs) := by repeat (first | assumption | with_reducible exact rs_sl | with_reducible exact rs_pt0 | exact rs_none | apply Rs.left)) (hx : xs.length = m := by first | assumption | rfl) (hm : m = n * 64 := by omega) (hmc : m ≤ c := by omega) (hb : ∀ x ∈ xs, x < 256 := by assumption) (hn : 0 < n := by omega) (hn2 : n ≤ 65536 := by omega) :
    Fn Tryz.prog 53 #[.slice a m c] (F) (fun v B => ∃ d, v = .tuple #[.pointer (some ⟨d, 0, none⟩), .int .i64 0] ∧ B = F * RDev d (fromS n xs)) := by
  refine fn_enterW (args := [.slice a m c]) Tryz.func53 rfl Tryz.ntmps53 (by simp) ?_
  have hfit : fitsB (m : Int) = true := by unfold fitsB; simp; omega
  refine sr ?_; refine tla ?_; refine tla ?_; refine nq ?_; refine tc_seq ?_; refine sr ?_; refine tlm ?_; refine tv (o_len Tryz.underlying57 rfl) ?_; refine tl_c rfl (o_call bd115 rfl (rfits_c (p := (m : Nat)))) ?_; rintro _ _ ⟨rfl, rfl⟩; refine tv (o_not rfl) ?_; refine nq ?_; refine tc_cond rfl (fun h => ?_) (fun h => ?_)
  · exfalso; rw [hfit] at h; exact absurd h (by decide)
  · try simp only [lv1, lv2, lv3, lv4, lv5, lv6, Bool.not_true, Bool.not_false] at h
    refine tc_skip ?_; refine q_then_n ?_; refine sr ?_; refine tlm ?_; refine tv (o_len Tryz.underlying57 rfl) ?_; refine tv (o_bS (l := [.int .i64 (m : Nat), .slice none 0 0, .int .i64 0, .slice none 0 0, .int .i64 0, .bool false]) (pv_cons (by conv => lhs; whnf) pv_nil) Tryz.underlying195 z195 (pl195 Tryz.underlying195) rfl) ?_; refine tl_x rfl (o_box rfl rfl) ?_; rintro _ _ ⟨b13, rfl, rfl⟩; refine tl_pre (A' := F * Bs rlR [] * pt b13 (cl ([.int .i64 ((n * 64 : Nat) : Int), .slice none 0 0, .int .i64 0, .slice none 0 0, .int .i64 0, .bool false]) 195) * Sl 2 (.slice none 0 0) 0 []) (fun _ _ h => sl_nil (by rw [bs_nil, star_emp, ← hm]; exact h)) ?_; refine tla ?_; refine nq ?_; refine tc_seq ?_; refine sr ?_; refine tla ?_; refine nq ?_; refine tc_block ?_; refine tc_loop (fun kk ρ BB => ∃ (i : Nat) (aL : Option Addr) (cL : Nat) (rls1 : List RL), (i ≤ n) ∧ (rls1.map RL.l = (fromS n xs).ls.take i) ∧ kk = n - i ∧ ρ 5 = .int .i64 ((i * 64 : Nat) : Int) ∧ ρ 0 = .slice a m c ∧ ρ 4 = .pointer (some ⟨b13, 0, none⟩) ∧ BB = F * Bs rlR rls1 * pt b13 (cl ([.int .i64 ((n * 64 : Nat) : Int), .slice aL i cL, .int .i64 0, .slice none 0 0, .int .i64 0, .bool false]) 195) * Sl 2 (.slice aL i cL) i (rls1.flatMap rcl)) (m := n - (0)) ?_ ?_
    · exact ⟨0, none, 0, [], by omega, rfl, rfl, rfl, rfl, rfl, rfl⟩
    · intro k ρ B hI
      obtain ⟨i, aL, cL, rls1, hp0, hp1, hkk1, hE5, hE0, hE4, rfl⟩ := hI
      refine tc_env (d := 5) hE5 ?_; refine tc_env (d := 0) hE0 ?_; refine tc_env (d := 4) hE4 ?_
      clear hE5 hE0 hE4
      refine tc_seq ?_; refine sr ?_; refine tlm ?_; refine tlm ?_; refine tv (o_len Tryz.underlying57 rfl) ?_; refine tv (o_lss rfl rfl) ?_; refine nq ?_; refine tc_cond rfl (fun h => ?_) (fun h => ?_)
      · have hi : i < n := by simp at h; omega
        have hrl : rls1.length = i := by have := congrArg List.length hp1; rw [List.length_map, List.length_take, fromS_len] at this; omega
        have hxl : ((xs.drop (i * 64)).take 64).length = 64 := by rw [List.length_take, List.length_drop]; omega
        have hlf := lineF_lb hb (show i * 64 + 64 ≤ xs.length by omega)
        refine tc_skip ?_; refine q_then_n ?_; refine tc_seq ?_; refine tc_block ?_; refine tc_regh (S := F * Bs rlR rls1) mo (by repeat (first | with_reducible exact dr_refl | apply dr_keep | apply dr_drop)) ?_
        show TH _ _ _ _ _ 18 #[ff,ff,ff,ff,ff,ff,ff,ff,ff,ff,ff,ff,ff,ff,ff,ff,ff,ff] _ _
        refine th_take (i := 0) (listed' := #[tt,ff,ff,ff,ff,ff,ff,ff,ff,ff,ff,ff,ff,ff,ff,ff,ff,ff]) rfl (by kernel_rfl) (by kernel_rfl) (by kernel_rfl) rfl rfl (o_move (by conv => lhs; whnf)) ?_; refine th_take (i := 1) (listed' := #[tt,tt,ff,ff,ff,ff,ff,ff,ff,ff,ff,ff,ff,ff,ff,ff,ff,ff]) rfl (by kernel_rfl) (by kernel_rfl) (by kernel_rfl) rfl rfl (o_move (by conv => lhs; whnf)) ?_; refine th_take (i := 2) (listed' := #[tt,tt,tt,ff,ff,ff,ff,ff,ff,ff,ff,ff,ff,ff,ff,ff,ff,ff]) rfl (by kernel_rfl) (by kernel_rfl) (by kernel_rfl) rfl rfl (o_nilCheck rfl) ?_; refine th_take (i := 3) (listed' := #[tt,tt,tt,tt,ff,ff,ff,ff,ff,ff,ff,ff,ff,ff,ff,ff,ff,ff]) rfl (by kernel_rfl) (by kernel_rfl) (by kernel_rfl) rfl rfl (o_fieldAddr (o := 1) Tryz.underlying195 rfl rfl sz193 rfl) ?_; refine th_take (i := 5) (listed' := #[tt,tt,tt,tt,ff,tt,ff,ff,ff,ff,ff,ff,ff,ff,ff,ff,ff,ff]) rfl (by kernel_rfl) (by kernel_rfl) (by kernel_rfl) rfl rfl (o_move (by conv => lhs; whnf)) ?_; refine th_take (i := 6) (listed' := #[tt,tt,tt,tt,ff,tt,tt,ff,ff,ff,ff,ff,ff,ff,ff,ff,ff,ff]) rfl (by kernel_rfl) (by kernel_rfl) (by kernel_rfl) rfl rfl (o_move (by conv => lhs; whnf)) ?_; refine th_take (i := 7) (listed' := #[tt,tt,tt,tt,ff,tt,tt,tt,ff,ff,ff,ff,ff,ff,ff,ff,ff,ff]) rfl (by kernel_rfl) (by kernel_rfl) (by kernel_rfl) rfl rfl (o_move (by conv => lhs; whnf)) ?_; refine th_take (i := 8) (listed' := #[tt,tt,tt,tt,ff,tt,tt,tt,tt,ff,ff,ff,ff,ff,ff,ff,ff,ff]) rfl (by kernel_rfl) (by kernel_rfl) (by kernel_rfl) rfl rfl (o_addI rfl rfl (by omega)) ?_
        refine th_env (d := 28) (v := .int .i64 ((i * 64 + 64 : Nat) : Int)) (rfl) ?_; refine th_take (i := 9) (listed' := #[tt,tt,tt,tt,ff,tt,tt,tt,tt,tt,ff,ff,ff,ff,ff,ff,ff,ff]) rfl (by kernel_rfl) (by kernel_rfl) (by kernel_rfl) rfl rfl (o_slice (l := i * 64) (h := i * 64 + 64) Tryz.underlying57 sz5 rfl (bnd_nat rfl) (bnd_nat rfl) (by omega) (by omega)) ?_; refine th_env (d := 29) (v := .slice (cutAddr a c (i * 64) 1) 64 (c - i * 64)) (by show Value.slice _ (i * 64 + 64 - i * 64) _ = _; rw [Nat.add_sub_cancel_left]) ?_; refine th_two (i := 4) (j := 10) (by kernel_rfl) ?_ ?_
        · skip
          refine oh_v (i := 4) (listed' := #[tt,tt,tt,tt,tt,tt,tt,tt,tt,tt,ff,ff,ff,ff,ff,ff,ff,ff]) rfl rfl rfl (o_load p193 rfl (by repeat (first | with_reducible exact has_here | with_reducible exact has_pt | apply has_left)) rfl) ?_; refine th_one (i := 10) (by kernel_rfl) ?_; refine oh_c (i := 10) (listed' := #[tt,tt,tt,tt,tt,tt,tt,tt,tt,tt,tt,ff,ff,ff,ff,ff,ff,ff]) rfl rfl rfl (o_call bd52 rfl (CopyBytes_c (xs := (xs.drop (i * 64)).take 64) (hr := (by repeat (first | exact rs_mid hr (by omega) | apply Rs.left))) (hm := hxl))) ?_; rintro _ _ ⟨a30, c30, rfl, hc30, rfl⟩; refine ⟨by repeat (first | with_reducible exact dr_refl | apply dr_keep | apply dr_drop), ?_⟩; refine th_one (i := 11) (by kernel_rfl) ?_; refine oh_x (i := 11) (listed' := #[tt,tt,tt,tt,tt,tt,tt,tt,tt,tt,tt,tt,ff,ff,ff,ff,ff,ff]) rfl rfl rfl (o_buildSlice1 Tryz.underlying41 sz57 z57 rfl rfl) ?_; rintro _ _ ⟨b31, rfl, rfl⟩; refine ⟨by repeat (first | with_reducible exact dr_refl | apply dr_keep | apply dr_drop), ?_⟩; refine th_take (i := 12) (listed' := #[tt,tt,tt,tt,tt,tt,tt,tt,tt,tt,tt,tt,tt,ff,ff,ff,ff,ff]) rfl (by kernel_rfl) (by kernel_rfl) (by kernel_rfl) rfl rfl (o_bS (l := [_, _]) (pv_cons (by conv => lhs; whnf) (pv_cons (by conv => lhs; whnf) pv_nil)) Tryz.underlying197 z197 (pl197 Tryz.underlying197) rfl) ?_; refine th_one (i := 13) (by kernel_rfl) ?_; refine oh_x (i := 13) (listed' := #[tt,tt,tt,tt,tt,tt,tt,tt,tt,tt,tt,tt,tt,tt,ff,ff,ff,ff]) rfl rfl rfl (o_buildSliceK (k := 2) (l := [.slice (some ⟨b31, 0, none⟩) 1 1, .int .i64 (-1)]) Tryz.underlying193 sz197 z197 rfl rfl (by decide)) ?_
          rintro _ _ ⟨b33, rfl, rfl⟩; refine ⟨by repeat (first | with_reducible exact dr_refl | apply dr_keep | apply dr_drop), ?_⟩; refine th_one (i := 14) (by kernel_rfl) ?_; refine oh_x (i := 14) (listed' := #[tt,tt,tt,tt,tt,tt,tt,tt,tt,tt,tt,tt,tt,tt,tt,ff,ff,ff]) rfl rfl rfl (o_apB Tryz.underlying193 Tryz.underlying193 sz197 by197 z197 rfl (by decide) (by decide) rfl rfl rfl (by repeat (first | with_reducible exact ct_here | apply ct_left)) rfl rfl (by omega) (fm_sn rls1 ((⟨.slice (some ⟨b31, 0, none⟩) 1 1, [(.slice a30 64 c30, seenL (lineF xs i))], -1⟩ : RL)))) ?_; rintro _ _ ⟨a34, c34, rfl, hc34, rfl⟩; refine ⟨by repeat (first | with_reducible exact dr_refl | apply dr_keep | apply dr_drop), ?_⟩; refine th_take (i := 15) (listed' := #[tt,tt,tt,tt,tt,tt,tt,tt,tt,tt,tt,tt,tt,tt,tt,tt,ff,ff]) rfl (by kernel_rfl) (by kernel_rfl) (by kernel_rfl) rfl rfl (o_nilCheck rfl) ?_; refine th_take (i := 16) (listed' := #[tt,tt,tt,tt,tt,tt,tt,tt,tt,tt,tt,tt,tt,tt,tt,tt,tt,ff]) rfl (by kernel_rfl) (by kernel_rfl) (by kernel_rfl) rfl rfl (o_fieldAddr (o := 1) Tryz.underlying195 rfl rfl sz193 rfl) ?_; refine th_one (i := 17) (by kernel_rfl) ?_; refine oh_u (i := 17) (listed' := #[tt,tt,tt,tt,tt,tt,tt,tt,tt,tt,tt,tt,tt,tt,tt,tt,tt,tt]) rfl rfl rfl (o_stU (l' := [.int .i64 ((n * 64 : Nat) : Int), .slice a34 (i + 1) c34, .int .i64 0, .slice none 0 0, .int .i64 0, .bool false]) rfl (by repeat (first | with_reducible exact upd_here | with_reducible exact upd_pt | apply upd_left)) sz193 rfl rfl (by show 1 < 6; decide) rfl) (by repeat (first | with_reducible exact dr_refl | apply dr_keep | apply dr_drop)) ?_
          refine th_done (by kernel_rfl) ?_; refine q_block_n (q_then_n ?_)
          have hnext : (rls1 ++ [(⟨.slice (some ⟨b31, 0, none⟩) 1 1, [(.slice a30 64 c30, seenL (lineF xs i))], -1⟩ : RL)]).map RL.l = (fromS n xs).ls.take (i + 1) := by
            rw [List.map_append, hp1, List.take_succ_eq_append_getElem (by rw [fromS_len]; exact hi), fromS_at xs hi]; rfl
          refine tc_pre (A' := F * Bs rlR (rls1 ++ [(⟨.slice (some ⟨b31, 0, none⟩) 1 1, [(.slice a30 64 c30, seenL (lineF xs i))], -1⟩ : RL)]) * pt b13 (cl ([.int .i64 ((n * 64 : Nat) : Int), .slice a34 (i + 1) c34, .int .i64 0, .slice none 0 0, .int .i64 0, .bool false]) 195) * Sl 2 (.slice a34 (i + 1) c34) (i + 1) ((rls1 ++ [(⟨.slice (some ⟨b31, 0, none⟩) 1 1, [(.slice a30 64 c30, seenL (lineF xs i))], -1⟩ : RL)]).flatMap rcl)) (fun _ _ h => ?_) ?_
          · have e : rlR (⟨.slice (some ⟨b31, 0, none⟩) 1 1, [(.slice a30 64 c30, seenL (lineF xs i))], -1⟩ : RL) = Sl 1 (.slice (some ⟨b31, 0, none⟩) 1 1) 1 [.slice a30 64 c30] * SlR 1 (.slice a30 64 c30) 64 (bys ((xs.drop (i * 64)).take 64)) := by
              show Sl 1 _ 1 [_] * Bs rowR [_] = _
              rw [bs_cons, bs_nil, emp_star]
              show _ * SlR 1 _ 64 (bys (lb (seenL (lineF xs i)))) = _
              rw [hlf]
            rw [bs_snoc, e]
            have h1 := sl_share (h.perm (show _ = F * Bs rlR rls1 * pt b13 (cl ([.int .i64 ((n * 64 : Nat) : Int), .slice a34 (i + 1) c34, .int .i64 0, .slice none 0 0, .int .i64 0, .bool false]) 195) * Sl 2 (.slice a34 (i + 1) c34) (i + 1) ((rls1 ++ [(⟨.slice (some ⟨b31, 0, none⟩) 1 1, [(.slice a30 64 c30, seenL (lineF xs i))], -1⟩ : RL)]).flatMap rcl) * pt b31 (cl [.slice a30 64 c30] 57) * Sl 1 (.slice a30 64 c30) 64 (bys ((xs.drop (i * 64)).take 64)) by ac_rfl))
            have h2 := sl_new (k := 1) (n := 1) (cap := 1) (xs := [.slice a30 64 c30]) (h1.perm (star_swap _ _ _)) (by decide) (Nat.le_refl _) rfl
            exact h2.perm (by ac_rfl)
          refine tc_reg ?_; refine tlm ?_; refine tv (by first | exact o_addI rfl rfl (by omega) | exact o_add rfl rfl) ?_; refine tl_env (d := 19) (v := .int .i64 (((i + 1) * 64 : Nat) : Int)) (by show Value.int .i64 _ = _; congr 1; omega) ?_; refine tla ?_; refine nq ?_; exact ⟨_, by omega, i + 1, a34, c34, rls1 ++ [(⟨.slice (some ⟨b31, 0, none⟩) 1 1, [(.slice a30 64 c30, seenL (lineF xs i))], -1⟩ : RL)], by omega, hnext, rfl, rfl, rfl, rfl, rfl⟩
        · skip
          refine oh_c (i := 10) (listed' := #[tt,tt,tt,tt,ff,tt,tt,tt,tt,tt,tt,ff,ff,ff,ff,ff,ff,ff]) rfl rfl rfl (o_call bd52 rfl (CopyBytes_c (xs := (xs.drop (i * 64)).take 64) (hr := (by repeat (first | exact rs_mid hr (by omega) | apply Rs.left))) (hm := hxl))) ?_; rintro _ _ ⟨a30, c30, rfl, hc30, rfl⟩; refine ⟨by repeat (first | with_reducible exact dr_refl | apply dr_keep | apply dr_drop), ?_⟩; refine th_two (i := 4) (j := 11) (by kernel_rfl) ?_ ?_
          · skip
            refine oh_v (i := 4) (listed' := #[tt,tt,tt,tt,tt,tt,tt,tt,tt,tt,tt,ff,ff,ff,ff,ff,ff,ff]) rfl rfl rfl (o_load p193 rfl (by repeat (first | with_reducible exact has_here | with_reducible exact has_pt | apply has_left)) rfl) ?_; refine th_one (i := 11) (by kernel_rfl) ?_; refine oh_x (i := 11) (listed' := #[tt,tt,tt,tt,tt,tt,tt,tt,tt,tt,tt,tt,ff,ff,ff,ff,ff,ff]) rfl rfl rfl (o_buildSlice1 Tryz.underlying41 sz57 z57 rfl rfl) ?_; rintro _ _ ⟨b31, rfl, rfl⟩; refine ⟨by repeat (first | with_reducible exact dr_refl | apply dr_keep | apply dr_drop), ?_⟩; refine th_take (i := 12) (listed' := #[tt,tt,tt,tt,tt,tt,tt,tt,tt,tt,tt,tt,tt,ff,ff,ff,ff,ff]) rfl (by kernel_rfl) (by kernel_rfl) (by kernel_rfl) rfl rfl (o_bS (l := [_, _]) (pv_cons (by conv => lhs; whnf) (pv_cons (by conv => lhs; whnf) pv_nil)) Tryz.underlying197 z197 (pl197 Tryz.underlying197) rfl) ?_; refine th_one (i := 13) (by kernel_rfl) ?_; refine oh_x (i := 13) (listed' := #[tt,tt,tt,tt,tt,tt,tt,tt,tt,tt,tt,tt,tt,tt,ff,ff,ff,ff]) rfl rfl rfl (o_buildSliceK (k := 2) (l := [.slice (some ⟨b31, 0, none⟩) 1 1, .int .i64 (-1)]) Tryz.underlying193 sz197 z197 rfl rfl (by decide)) ?_; rintro _ _ ⟨b33, rfl, rfl⟩; refine ⟨by repeat (first | with_reducible exact dr_refl | apply dr_keep | apply dr_drop), ?_⟩; refine th_one (i := 14) (by kernel_rfl) ?_; refine oh_x (i := 14) (listed' := #[tt,tt,tt,tt,tt,tt,tt,tt,tt,tt,tt,tt,tt,tt,tt,ff,ff,ff]) rfl rfl rfl (o_apB Tryz.underlying193 Tryz.underlying193 sz197 by197 z197 rfl (by decide) (by decide) rfl rfl rfl (by repeat (first | with_reducible exact ct_here | apply ct_left)) rfl rfl (by omega) (fm_sn rls1 ((⟨.slice (some ⟨b31, 0, none⟩) 1 1, [(.slice a30 64 c30, seenL (lineF xs i))], -1⟩ : RL)))) ?_
            rintro _ _ ⟨a34, c34, rfl, hc34, rfl⟩; refine ⟨by repeat (first | with_reducible exact dr_refl | apply dr_keep | apply dr_drop), ?_⟩; refine th_take (i := 15) (listed' := #[tt,tt,tt,tt,tt,tt,tt,tt,tt,tt,tt,tt,tt,tt,tt,tt,ff,ff]) rfl (by kernel_rfl) (by kernel_rfl) (by kernel_rfl) rfl rfl (o_nilCheck rfl) ?_; refine th_take (i := 16) (listed' := #[tt,tt,tt,tt,tt,tt,tt,tt,tt,tt,tt,tt,tt,tt,tt,tt,tt,ff]) rfl (by kernel_rfl) (by kernel_rfl) (by kernel_rfl) rfl rfl (o_fieldAddr (o := 1) Tryz.underlying195 rfl rfl sz193 rfl) ?_; refine th_one (i := 17) (by kernel_rfl) ?_; refine oh_u (i := 17) (listed' := #[tt,tt,tt,tt,tt,tt,tt,tt,tt,tt,tt,tt,tt,tt,tt,tt,tt,tt]) rfl rfl rfl (o_stU (l' := [.int .i64 ((n * 64 : Nat) : Int), .slice a34 (i + 1) c34, .int .i64 0, .slice none 0 0, .int .i64 0, .bool false]) rfl (by repeat (first | with_reducible exact upd_here | with_reducible exact upd_pt | apply upd_left)) sz193 rfl rfl (by show 1 < 6; decide) rfl) (by repeat (first | with_reducible exact dr_refl | apply dr_keep | apply dr_drop)) ?_; refine th_done (by kernel_rfl) ?_; refine q_block_n (q_then_n ?_)
            have hnext : (rls1 ++ [(⟨.slice (some ⟨b31, 0, none⟩) 1 1, [(.slice a30 64 c30, seenL (lineF xs i))], -1⟩ : RL)]).map RL.l = (fromS n xs).ls.take (i + 1) := by
              rw [List.map_append, hp1, List.take_succ_eq_append_getElem (by rw [fromS_len]; exact hi), fromS_at xs hi]; rfl
            refine tc_pre (A' := F * Bs rlR (rls1 ++ [(⟨.slice (some ⟨b31, 0, none⟩) 1 1, [(.slice a30 64 c30, seenL (lineF xs i))], -1⟩ : RL)]) * pt b13 (cl ([.int .i64 ((n * 64 : Nat) : Int), .slice a34 (i + 1) c34, .int .i64 0, .slice none 0 0, .int .i64 0, .bool false]) 195) * Sl 2 (.slice a34 (i + 1) c34) (i + 1) ((rls1 ++ [(⟨.slice (some ⟨b31, 0, none⟩) 1 1, [(.slice a30 64 c30, seenL (lineF xs i))], -1⟩ : RL)]).flatMap rcl)) (fun _ _ h => ?_) ?_
            · have e : rlR (⟨.slice (some ⟨b31, 0, none⟩) 1 1, [(.slice a30 64 c30, seenL (lineF xs i))], -1⟩ : RL) = Sl 1 (.slice (some ⟨b31, 0, none⟩) 1 1) 1 [.slice a30 64 c30] * SlR 1 (.slice a30 64 c30) 64 (bys ((xs.drop (i * 64)).take 64)) := by
                show Sl 1 _ 1 [_] * Bs rowR [_] = _
                rw [bs_cons, bs_nil, emp_star]
                show _ * SlR 1 _ 64 (bys (lb (seenL (lineF xs i)))) = _
                rw [hlf]
              rw [bs_snoc, e]
              have h1 := sl_share (h.perm (show _ = F * Bs rlR rls1 * pt b13 (cl ([.int .i64 ((n * 64 : Nat) : Int), .slice a34 (i + 1) c34, .int .i64 0, .slice none 0 0, .int .i64 0, .bool false]) 195) * Sl 2 (.slice a34 (i + 1) c34) (i + 1) ((rls1 ++ [(⟨.slice (some ⟨b31, 0, none⟩) 1 1, [(.slice a30 64 c30, seenL (lineF xs i))], -1⟩ : RL)]).flatMap rcl) * pt b31 (cl [.slice a30 64 c30] 57) * Sl 1 (.slice a30 64 c30) 64 (bys ((xs.drop (i * 64)).take 64)) by ac_rfl))
              have h2 := sl_new (k := 1) (n := 1) (cap := 1) (xs := [.slice a30 64 c30]) (h1.perm (star_swap _ _ _)) (by decide) (Nat.le_refl _) rfl
              exact h2.perm (by ac_rfl)
            refine tc_reg ?_; refine tlm ?_; refine tv (by first | exact o_addI rfl rfl (by omega) | exact o_add rfl rfl) ?_; refine tl_env (d := 19) (v := .int .i64 (((i + 1) * 64 : Nat) : Int)) (by show Value.int .i64 _ = _; congr 1; omega) ?_; refine tla ?_; refine nq ?_; exact ⟨_, by omega, i + 1, a34, c34, rls1 ++ [(⟨.slice (some ⟨b31, 0, none⟩) 1 1, [(.slice a30 64 c30, seenL (lineF xs i))], -1⟩ : RL)], by omega, hnext, rfl, rfl, rfl, rfl, rfl⟩
          · skip
            refine oh_x (i := 11) (listed' := #[tt,tt,tt,tt,ff,tt,tt,tt,tt,tt,tt,tt,ff,ff,ff,ff,ff,ff]) rfl rfl rfl (o_buildSlice1 Tryz.underlying41 sz57 z57 rfl rfl) ?_; rintro _ _ ⟨b31, rfl, rfl⟩; refine ⟨by repeat (first | with_reducible exact dr_refl | apply dr_keep | apply dr_drop), ?_⟩; refine th_take (i := 12) (listed' := #[tt,tt,tt,tt,ff,tt,tt,tt,tt,tt,tt,tt,tt,ff,ff,ff,ff,ff]) rfl (by kernel_rfl) (by kernel_rfl) (by kernel_rfl) rfl rfl (o_bS (l := [_, _]) (pv_cons (by conv => lhs; whnf) (pv_cons (by conv => lhs; whnf) pv_nil)) Tryz.underlying197 z197 (pl197 Tryz.underlying197) rfl) ?_; refine th_two (i := 4) (j := 13) (by kernel_rfl) ?_ ?_
            · skip
              refine oh_v (i := 4) (listed' := #[tt,tt,tt,tt,tt,tt,tt,tt,tt,tt,tt,tt,tt,ff,ff,ff,ff,ff]) rfl rfl rfl (o_load p193 rfl (by repeat (first | with_reducible exact has_here | with_reducible exact has_pt | apply has_left)) rfl) ?_; refine th_one (i := 13) (by kernel_rfl) ?_; refine oh_x (i := 13) (listed' := #[tt,tt,tt,tt,tt,tt,tt,tt,tt,tt,tt,tt,tt,tt,ff,ff,ff,ff]) rfl rfl rfl (o_buildSliceK (k := 2) (l := [.slice (some ⟨b31, 0, none⟩) 1 1, .int .i64 (-1)]) Tryz.underlying193 sz197 z197 rfl rfl (by decide)) ?_; rintro _ _ ⟨b33, rfl, rfl⟩; refine ⟨by repeat (first | with_reducible exact dr_refl | apply dr_keep | apply dr_drop), ?_⟩; refine th_one (i := 14) (by kernel_rfl) ?_; refine oh_x (i := 14) (listed' := #[tt,tt,tt,tt,tt,tt,tt,tt,tt,tt,tt,tt,tt,tt,tt,ff,ff,ff]) rfl rfl rfl (o_apB Tryz.underlying193 Tryz.underlying193 sz197 by197 z197 rfl (by decide) (by decide) rfl rfl rfl (by repeat (first | with_reducible exact ct_here | apply ct_left)) rfl rfl (by omega) (fm_sn rls1 ((⟨.slice (some ⟨b31, 0, none⟩) 1 1, [(.slice a30 64 c30, seenL (lineF xs i))], -1⟩ : RL)))) ?_; rintro _ _ ⟨a34, c34, rfl, hc34, rfl⟩; refine ⟨by repeat (first | with_reducible exact dr_refl | apply dr_keep | apply dr_drop), ?_⟩; refine th_take (i := 15) (listed' := #[tt,tt,tt,tt,tt,tt,tt,tt,tt,tt,tt,tt,tt,tt,tt,tt,ff,ff]) rfl (by kernel_rfl) (by kernel_rfl) (by kernel_rfl) rfl rfl (o_nilCheck rfl) ?_
              refine th_take (i := 16) (listed' := #[tt,tt,tt,tt,tt,tt,tt,tt,tt,tt,tt,tt,tt,tt,tt,tt,tt,ff]) rfl (by kernel_rfl) (by kernel_rfl) (by kernel_rfl) rfl rfl (o_fieldAddr (o := 1) Tryz.underlying195 rfl rfl sz193 rfl) ?_; refine th_one (i := 17) (by kernel_rfl) ?_; refine oh_u (i := 17) (listed' := #[tt,tt,tt,tt,tt,tt,tt,tt,tt,tt,tt,tt,tt,tt,tt,tt,tt,tt]) rfl rfl rfl (o_stU (l' := [.int .i64 ((n * 64 : Nat) : Int), .slice a34 (i + 1) c34, .int .i64 0, .slice none 0 0, .int .i64 0, .bool false]) rfl (by repeat (first | with_reducible exact upd_here | with_reducible exact upd_pt | apply upd_left)) sz193 rfl rfl (by show 1 < 6; decide) rfl) (by repeat (first | with_reducible exact dr_refl | apply dr_keep | apply dr_drop)) ?_; refine th_done (by kernel_rfl) ?_; refine q_block_n (q_then_n ?_)
              have hnext : (rls1 ++ [(⟨.slice (some ⟨b31, 0, none⟩) 1 1, [(.slice a30 64 c30, seenL (lineF xs i))], -1⟩ : RL)]).map RL.l = (fromS n xs).ls.take (i + 1) := by
                rw [List.map_append, hp1, List.take_succ_eq_append_getElem (by rw [fromS_len]; exact hi), fromS_at xs hi]; rfl
              refine tc_pre (A' := F * Bs rlR (rls1 ++ [(⟨.slice (some ⟨b31, 0, none⟩) 1 1, [(.slice a30 64 c30, seenL (lineF xs i))], -1⟩ : RL)]) * pt b13 (cl ([.int .i64 ((n * 64 : Nat) : Int), .slice a34 (i + 1) c34, .int .i64 0, .slice none 0 0, .int .i64 0, .bool false]) 195) * Sl 2 (.slice a34 (i + 1) c34) (i + 1) ((rls1 ++ [(⟨.slice (some ⟨b31, 0, none⟩) 1 1, [(.slice a30 64 c30, seenL (lineF xs i))], -1⟩ : RL)]).flatMap rcl)) (fun _ _ h => ?_) ?_
              · have e : rlR (⟨.slice (some ⟨b31, 0, none⟩) 1 1, [(.slice a30 64 c30, seenL (lineF xs i))], -1⟩ : RL) = Sl 1 (.slice (some ⟨b31, 0, none⟩) 1 1) 1 [.slice a30 64 c30] * SlR 1 (.slice a30 64 c30) 64 (bys ((xs.drop (i * 64)).take 64)) := by
                  show Sl 1 _ 1 [_] * Bs rowR [_] = _
                  rw [bs_cons, bs_nil, emp_star]
                  show _ * SlR 1 _ 64 (bys (lb (seenL (lineF xs i)))) = _
                  rw [hlf]
                rw [bs_snoc, e]
                have h1 := sl_share (h.perm (show _ = F * Bs rlR rls1 * pt b13 (cl ([.int .i64 ((n * 64 : Nat) : Int), .slice a34 (i + 1) c34, .int .i64 0, .slice none 0 0, .int .i64 0, .bool false]) 195) * Sl 2 (.slice a34 (i + 1) c34) (i + 1) ((rls1 ++ [(⟨.slice (some ⟨b31, 0, none⟩) 1 1, [(.slice a30 64 c30, seenL (lineF xs i))], -1⟩ : RL)]).flatMap rcl) * pt b31 (cl [.slice a30 64 c30] 57) * Sl 1 (.slice a30 64 c30) 64 (bys ((xs.drop (i * 64)).take 64)) by ac_rfl))
                have h2 := sl_new (k := 1) (n := 1) (cap := 1) (xs := [.slice a30 64 c30]) (h1.perm (star_swap _ _ _)) (by decide) (Nat.le_refl _) rfl
                exact h2.perm (by ac_rfl)
              refine tc_reg ?_; refine tlm ?_; refine tv (by first | exact o_addI rfl rfl (by omega) | exact o_add rfl rfl) ?_; refine tl_env (d := 19) (v := .int .i64 (((i + 1) * 64 : Nat) : Int)) (by show Value.int .i64 _ = _; congr 1; omega) ?_; refine tla ?_; refine nq ?_; exact ⟨_, by omega, i + 1, a34, c34, rls1 ++ [(⟨.slice (some ⟨b31, 0, none⟩) 1 1, [(.slice a30 64 c30, seenL (lineF xs i))], -1⟩ : RL)], by omega, hnext, rfl, rfl, rfl, rfl, rfl⟩
            · skip
              refine oh_x (i := 13) (listed' := #[tt,tt,tt,tt,ff,tt,tt,tt,tt,tt,tt,tt,tt,tt,ff,ff,ff,ff]) rfl rfl rfl (o_buildSliceK (k := 2) (l := [.slice (some ⟨b31, 0, none⟩) 1 1, .int .i64 (-1)]) Tryz.underlying193 sz197 z197 rfl rfl (by decide)) ?_; rintro _ _ ⟨b33, rfl, rfl⟩; refine ⟨by repeat (first | with_reducible exact dr_refl | apply dr_keep | apply dr_drop), ?_⟩; refine th_one (i := 4) (by kernel_rfl) ?_; refine oh_v (i := 4) (listed' := #[tt,tt,tt,tt,tt,tt,tt,tt,tt,tt,tt,tt,tt,tt,ff,ff,ff,ff]) rfl rfl rfl (o_load p193 rfl (by repeat (first | with_reducible exact has_here | with_reducible exact has_pt | apply has_left)) rfl) ?_; refine th_one (i := 14) (by kernel_rfl) ?_; refine oh_x (i := 14) (listed' := #[tt,tt,tt,tt,tt,tt,tt,tt,tt,tt,tt,tt,tt,tt,tt,ff,ff,ff]) rfl rfl rfl (o_apB Tryz.underlying193 Tryz.underlying193 sz197 by197 z197 rfl (by decide) (by decide) rfl rfl rfl (by repeat (first | with_reducible exact ct_here | apply ct_left)) rfl rfl (by omega) (fm_sn rls1 ((⟨.slice (some ⟨b31, 0, none⟩) 1 1, [(.slice a30 64 c30, seenL (lineF xs i))], -1⟩ : RL)))) ?_; rintro _ _ ⟨a34, c34, rfl, hc34, rfl⟩; refine ⟨by repeat (first | with_reducible exact dr_refl | apply dr_keep | apply dr_drop), ?_⟩; refine th_take (i := 15) (listed' := #[tt,tt,tt,tt,tt,tt,tt,tt,tt,tt,tt,tt,tt,tt,tt,tt,ff,ff]) rfl (by kernel_rfl) (by kernel_rfl) (by kernel_rfl) rfl rfl (o_nilCheck rfl) ?_
              refine th_take (i := 16) (listed' := #[tt,tt,tt,tt,tt,tt,tt,tt,tt,tt,tt,tt,tt,tt,tt,tt,tt,ff]) rfl (by kernel_rfl) (by kernel_rfl) (by kernel_rfl) rfl rfl (o_fieldAddr (o := 1) Tryz.underlying195 rfl rfl sz193 rfl) ?_; refine th_one (i := 17) (by kernel_rfl) ?_; refine oh_u (i := 17) (listed' := #[tt,tt,tt,tt,tt,tt,tt,tt,tt,tt,tt,tt,tt,tt,tt,tt,tt,tt]) rfl rfl rfl (o_stU (l' := [.int .i64 ((n * 64 : Nat) : Int), .slice a34 (i + 1) c34, .int .i64 0, .slice none 0 0, .int .i64 0, .bool false]) rfl (by repeat (first | with_reducible exact upd_here | with_reducible exact upd_pt | apply upd_left)) sz193 rfl rfl (by show 1 < 6; decide) rfl) (by repeat (first | with_reducible exact dr_refl | apply dr_keep | apply dr_drop)) ?_; refine th_done (by kernel_rfl) ?_; refine q_block_n (q_then_n ?_)
              have hnext : (rls1 ++ [(⟨.slice (some ⟨b31, 0, none⟩) 1 1, [(.slice a30 64 c30, seenL (lineF xs i))], -1⟩ : RL)]).map RL.l = (fromS n xs).ls.take (i + 1) := by
                rw [List.map_append, hp1, List.take_succ_eq_append_getElem (by rw [fromS_len]; exact hi), fromS_at xs hi]; rfl
              refine tc_pre (A' := F * Bs rlR (rls1 ++ [(⟨.slice (some ⟨b31, 0, none⟩) 1 1, [(.slice a30 64 c30, seenL (lineF xs i))], -1⟩ : RL)]) * pt b13 (cl ([.int .i64 ((n * 64 : Nat) : Int), .slice a34 (i + 1) c34, .int .i64 0, .slice none 0 0, .int .i64 0, .bool false]) 195) * Sl 2 (.slice a34 (i + 1) c34) (i + 1) ((rls1 ++ [(⟨.slice (some ⟨b31, 0, none⟩) 1 1, [(.slice a30 64 c30, seenL (lineF xs i))], -1⟩ : RL)]).flatMap rcl)) (fun _ _ h => ?_) ?_
              · have e : rlR (⟨.slice (some ⟨b31, 0, none⟩) 1 1, [(.slice a30 64 c30, seenL (lineF xs i))], -1⟩ : RL) = Sl 1 (.slice (some ⟨b31, 0, none⟩) 1 1) 1 [.slice a30 64 c30] * SlR 1 (.slice a30 64 c30) 64 (bys ((xs.drop (i * 64)).take 64)) := by
                  show Sl 1 _ 1 [_] * Bs rowR [_] = _
                  rw [bs_cons, bs_nil, emp_star]
                  show _ * SlR 1 _ 64 (bys (lb (seenL (lineF xs i)))) = _
                  rw [hlf]
                rw [bs_snoc, e]
                have h1 := sl_share (h.perm (show _ = F * Bs rlR rls1 * pt b13 (cl ([.int .i64 ((n * 64 : Nat) : Int), .slice a34 (i + 1) c34, .int .i64 0, .slice none 0 0, .int .i64 0, .bool false]) 195) * Sl 2 (.slice a34 (i + 1) c34) (i + 1) ((rls1 ++ [(⟨.slice (some ⟨b31, 0, none⟩) 1 1, [(.slice a30 64 c30, seenL (lineF xs i))], -1⟩ : RL)]).flatMap rcl) * pt b31 (cl [.slice a30 64 c30] 57) * Sl 1 (.slice a30 64 c30) 64 (bys ((xs.drop (i * 64)).take 64)) by ac_rfl))
                have h2 := sl_new (k := 1) (n := 1) (cap := 1) (xs := [.slice a30 64 c30]) (h1.perm (star_swap _ _ _)) (by decide) (Nat.le_refl _) rfl
                exact h2.perm (by ac_rfl)
              refine tc_reg ?_; refine tlm ?_; refine tv (by first | exact o_addI rfl rfl (by omega) | exact o_add rfl rfl) ?_; refine tl_env (d := 19) (v := .int .i64 (((i + 1) * 64 : Nat) : Int)) (by show Value.int .i64 _ = _; congr 1; omega) ?_; refine tla ?_; refine nq ?_; exact ⟨_, by omega, i + 1, a34, c34, rls1 ++ [(⟨.slice (some ⟨b31, 0, none⟩) 1 1, [(.slice a30 64 c30, seenL (lineF xs i))], -1⟩ : RL)], by omega, hnext, rfl, rfl, rfl, rfl, rfl⟩
      · obtain rfl : i = n := by simp at h; omega
        rw [List.take_of_length_le (by rw [fromS_len]; exact Nat.le_refl _)] at hp1
        refine tc_exit ?_; refine q_then_e (q_then_e (q_block_x (q_then_n ?_))); refine sr ?_; refine tlm ?_; refine tla ?_; refine tla ?_; refine nq ?_; refine tc_ret ?_; refine ⟨.tuple #[.pointer (some ⟨b13, 0, none⟩), .int .i64 0], F * RDev b13 (fromS i xs), res2 rfl rfl rfl, fun _ _ h => ?_, b13, rfl, rfl⟩; refine rdev_back (lv := .slice aL i cL) (rls := rls1) (av := .slice none 0 0) (kvs := []) (fromS_wf hn hn2 hb) hp1 rfl _ _ ?_
        have h1 := sl_nil (k := 2) h
        refine h1.perm ?_
        unfold RDevC ArmsR rdcs
        rw [fromS_len]
        show _ = F * (_ * _ * _ * (Sl 2 (.slice none 0 0) 0 [] * emp))
        rw [star_emp]
        rw [show (fromS i xs).ops = 0 from rfl, show (fromS i xs).cnt = 0 from rfl, show (fromS i xs).off = false from rfl]
        ac_rfl
theorem rLoad_c {A R : SP} {C : SP → SP} {r : Nat} {s : DevS} (hc : Ct A (RDev r s) R C := by repeat (first | with_reducible exact ct_here | apply ct_left)) {p m : Nat} (hoff : s.off = false := by assumption) (hpm : p + m ≤ s.ls.length * 64 := by omega) :
    Fn Tryz.prog 174 #[.pointer (some ⟨r, 0, none⟩), .int .i64 (p : Nat), .int .i64 (m : Nat)] A (fun v B => ∃ a c, v = .tuple #[.slice a m c, .int .i64 0] ∧ m ≤ c ∧ B = A * Sl 1 (.slice a m c) m (bys (((imgS s).drop p).take m))) := by
  obtain ⟨rfl, hC⟩ := hc
  exact (fn_rdevR (q := fun v X => ∃ a c, v = .tuple #[.slice a m c, .int .i64 0] ∧ m ≤ c ∧ X = Sl 1 (.slice a m c) m (bys (((imgS s).drop p).take m))) fun A lv rls av hR => rLoad_f A hR hoff hpm).mono fun v B ⟨X, e, a, c, h1, h2, h3⟩ => ⟨a, c, h1, h2, by rw [e, h3]⟩
end Go.Vl

namespace Go.Vl
open Go Go.Proofs
theorem Foc.words {A A' : SP} {hvs : List Value} {held : List (List Nat)} (h : Foc A (Words hvs held) (Words hvs held) A') (hl : hvs.length = held.length) {g : Gh} {w : World} (hs : sat g w A) :
    ∀ i (hi : i < held.length), ∃ a c, hvs[i]? = some (.slice a held[i].length c) ∧ Rd A a (wds held[i]) := fun i hi => by
  obtain ⟨R, hA, _⟩ := h
  obtain ⟨S, h1, _⟩ := words_get hl hi
  rw [h1, ← star_assoc] at hA
  obtain ⟨a, c, e, _, _, hr⟩ := sl_have' hA hs
  exact ⟨a, c, by rw [List.getElem?_eq_getElem (by omega), e], hr⟩
/-- What PmemLasts looks at, of a book and a device behind a loss of power. -/
structure Lasts (P : PlS) (s2 : DevS) : Prop where
  len : s2.ls.length = P.marks.length
  wf : WfD s2
  wfp : WfD P.s
  seen : ∀ i (h : i < P.seen.length), nm (((imgS P.s).drop (8 * i)).take 8) = P.seen[i]
  held : ∀ i (h : i < P.held.length), nm (((imgS s2).drop (8 * i)).take 8) ∈ P.held[i]
  last : ∀ i (h : i < P.sure.length) (h' : i < P.last.length), P.sure[i] = true → nm (((imgS s2).drop (8 * i)).take 8) = P.last[i]
end Go.Vl

namespace Go.Vl
open Go Go.Proofs
/-- The book tells the device. -/
structure InvL (P : PlS) (w : Nat) (l : LineS) : Prop where
  seen : (seenL l).getD (w % 8) 0 = P.seen.getD w 0
  held : ∀ σ ∈ l.st, σ.getD (w % 8) 0 ∈ P.held.getD w []
  last : P.sure.getD w false = true → ∀ σ ∈ l.st, σ.getD (w % 8) 0 = P.last.getD w 0
  mark : P.marks.getD (w / 8) 0 = 1 → l.mark = (l.st.length : Int) - 1
def Inv (P : PlS) : Prop := ∀ w l, w < P.seen.length → P.s.ls[w / 8]? = some l → InvL P w l
end Go.Vl

namespace Go.Vl
open Go Go.Proofs
instance : Inhabited StepC := ⟨⟨0, 0, .bool false, 0, .bool false, .bool false, .bool false⟩⟩
end Go.Vl

namespace Go.Vl
open Go Go.Proofs
theorem wfR_ct {A R : SP} {C : SP → SP} {r : Nat} {s : DevS} (hc : Ct A (RDev r s) R C) {g : Gh} {w : World} (hs : sat g w A) : WfD s := by
  obtain ⟨rfl, _⟩ := hc; exact (rdev_iff.1 hs).1
theorem nm_snocr (x : Nat) (l : List Nat) : nm (x :: l) = x + 256 * nm l := rfl
theorem nm_bound {l : List Nat} (h : ∀ x ∈ l, x < 256) (hl : l.length ≤ 8) : nm l < 18446744073709551616 := Nat.lt_of_lt_of_le (nm_lt l h) (by calc 256 ^ l.length ≤ 256 ^ 8 := Nat.pow_le_pow_right (by decide) hl
  _ = 18446744073709551616 := by decide)
end Go.Vl

namespace Go.Vl
open Go Go.Proofs
section
variable {P : Program} {n : Nat} {ρ : Env} {dst : Option Nat} {ty : TypeId} {pos : String} {after : Array Edge} {gd : Option (Nat × Bool)} {A : SP}
end
def rdT (n : Nat) (I : List Nat) : List Int × Int := if I.take 64 = sbB [n, 128, 32768, 32896, (n - 32896) / 256, 0] then ([(n : Int), ((128 : Nat) : Int), ((32768 : Nat) : Int), ((32896 : Nat) : Int), (((n - 32896) / 256 : Nat) : Int)], 0) else ([0, 0, 0, 0, 0], 100)
end Go.Vl

namespace Go.Vl
open Go Go.Proofs
def wk1 : DevS := (bytesP 60 [1, 1, 1, 1, 1, 1, 1, 1] (newS 2)).2
def wk2 : DevS := (pubP 8 258 wk1).2
def wk3 : DevS := (crS [] wk2).2
def wk4 : DevS := { wk3 with off := false }
def nk1 : DevS := (crS [] (newS 1)).2
end Go.Vl

namespace Go.Vl
open Go Go.Proofs
/-- The mark of a place. -/
def mk (i k : Nat) : Nat := (i * 31 + k * 7 + 1) % 256
/-- The marks of a list. -/
def mks (i n : Nat) : List Nat := (List.range n).map (mk i)
def mkL (j : Nat) (l : List Nat) : List Nat := mks j l.length
/-- Lists that bear their marks; the first of them is number j. -/
def PM : Nat → List Value → List Nat → SP
  | j, v :: vs, n :: ns => PM (j + 1) vs ns * Sl 1 v n (bys (mks j n))
  | _, [], [] => emp
  | _, _, _ => pure_ False
/-- Such lists, and what they were grown to. -/
def GP : Nat → List Value → List Value → List Nat → SP
  | j, v :: vs, g :: gs, n :: ns => GP (j + 1) vs gs ns * Gr v n (bys (mks j n)) g (n + 70) (bys (mks j (n + 70)))
  | _, [], [], [] => emp
  | _, _, _, _ => pure_ False
attribute [local irreducible] Sl SlR pt ro Parts Gr
end Go.Vl

namespace Go.Vl
open Go Go.Proofs
/-- What Read and Root answer. -/
def rdA (s : DevS) : List Int × Int := if s.off = true then ([0, 0, 0, 0, 0], 5) else if 578 ≤ s.ls.length then rdT (s.ls.length * 64) (imgS s) else ([0, 0, 0, 0, 0], 100)
def rootA (s : DevS) : Nat × Int := if (rdA s).2 ≠ 0 then (0, (rdA s).2) else wordP 64 s
end Go.Vl

namespace Go.Vl
open Go Go.Proofs
theorem old_heap' {W w : World} {g : Gh} (h : sat g w (old W)) {k : Nat} (hk : k < W.heap.size) : w.heap[k]? = W.heap[k]? := by
  obtain ⟨x, rfl, hx⟩ := h.hp
  have := Array.getElem?_eq_getElem hk
  rw [this]; exact hx _ _ true (by simp [this])
theorem cell_old' {W : World} {b off : Nat} {v : Value} (h : W.cell? ⟨b, off, none⟩ = some v) : Cell (old W) b off v := fun g w hs => by
  have hb : b < W.heap.size := by
    rcases Nat.lt_or_ge b W.heap.size with h1 | h1
    · exact h1
    · exfalso
      have : W.heap[b]? = none := Array.getElem?_eq_none h1
      simp [World.cell?, this] at h
  have := old_heap' hs hb
  rw [← h]; simp only [World.cell?, this]
theorem rs_old {W : World} {a : Addr} {xs : List Value} (h : ∀ i v, xs[i]? = some v → W.cell? (a.add i) = some v) : Rs (old W) (some a) xs := by
  cases xs with
  | nil => exact rs_nil
  | cons x l =>
    obtain ⟨b, off, spot⟩ := a
    have h0 := h 0 x rfl
    have hspot : spot = none := by simpa [Addr.add] using World.cell?_spot h0
    subst hspot
    refine fun g w hs i v hv => ⟨b, off, rfl, ?_⟩
    have := h i v hv
    rw [WideShapes.add_plain] at this
    exact cell_old' this g w hs
/-- Whatever lies there as a value of type t, by the argument's own reading, r holds of. -/
def Rdb {α : Type} (P : Program) (W : World) (t : TypeId) (r : List Value → α → Prop) : Prop :=
  ∀ (H : Type) (enc : TypeId × Value → H) (spare : Nat → Bool) (held : Bool) (fuel : Nat) (cs : List Value) (d : DataW H) (pl : List MemPlace),
    DataW.trod enc P W 0 spare held fuel t cs = some (d, pl) → (∀ n ∈ d.weights P t, n ≤ reachBytes) → ∃ x, r cs x
theorem Rdb.mono {α β : Type} {P : Program} {W : World} {t : TypeId} {r : List Value → α → Prop} {q : List Value → β → Prop} (h : Rdb P W t r) (k : ∀ cs x, r cs x → ∃ y, q cs y) : Rdb P W t q :=
  fun H enc sp hd fu cs d pl h1 h2 => by obtain ⟨x, hx⟩ := h H enc sp hd fu cs d pl h1 h2; exact k cs x hx
def PInt (k : IntKind) (cs : List Value) (n : Int) : Prop := cs = [.int k n] ∧ (Lit.int k n).wf = true
theorem rdb_int {P : Program} {W : World} {t : TypeId} {k : IntKind} (ht : P.underlying t = some (.int k)) : Rdb P W t (PInt k) := fun H enc sp hd fu cs d pl h _ => by
  obtain ⟨n, e, _, hw⟩ := DataW.trod_int ht h
  exact ⟨n, e, hw⟩
def PBool (cs : List Value) (b : Bool) : Prop := cs = [.bool b]
/-- A slice: its elements' cells, and what each is. -/
def PSl {α : Type} (A : SP) (k b : Nat) (r : List Value → α → Prop) (cs : List Value) (xs : List α) : Prop :=
  ∃ (a : Option Addr) (cap : Nat) (Cs : List (List Value)), cs = [.slice a xs.length cap] ∧ xs.length ≤ cap ∧ xs.length * b ≤ reachBytes ∧ Cs.length = xs.length ∧ (∀ i (h : i < xs.length) (h' : i < Cs.length), Cs[i].length = k ∧ r Cs[i] xs[i]) ∧ Rs A a Cs.flatten
theorem weightsAll_mem {H : Type} {P : Program} {e : TypeId} : ∀ {l : List (DataW H)} {d : DataW H}, d ∈ l → ∀ n ∈ d.weights P e, n ∈ DataW.weightsAll P e l
  | x :: l, d, h, n, hn => by
    simp only [DataW.weightsAll, List.mem_append]
    rcases List.mem_cons.1 h with rfl | h
    · exact .inl hn
    · exact .inr (weightsAll_mem h n hn)
theorem flat_at {k : Nat} : ∀ {Cs : List (List Value)} (_ : ∀ c ∈ Cs, c.length = k) {i j : Nat} (_ : j < k) (hi : i < Cs.length), Cs.flatten[i * k + j]? = Cs[i][j]?
  | c :: Cs, h, 0, j, hj, _ => by
    rw [Nat.zero_mul, Nat.zero_add, List.flatten_cons, List.getElem?_append_left (by rw [h c (by simp)]; exact hj)]; rfl
  | c :: Cs, h, i + 1, j, hj, hi => by
    have hc := h c (by simp)
    rw [List.flatten_cons, List.getElem?_append_right (by rw [hc, Nat.add_mul]; omega), hc, show (i + 1) * k + j - k = i * k + j by rw [Nat.add_mul]; omega]
    exact flat_at (fun x hx => h x (List.mem_cons_of_mem _ hx)) hj (by simpa using hi)
theorem flat_length {k : Nat} : ∀ {Cs : List (List Value)} (_ : ∀ c ∈ Cs, c.length = k), Cs.flatten.length = Cs.length * k
  | [], _ => by simp
  | c :: Cs, h => by
    rw [List.flatten_cons, List.length_append, h c (by simp), flat_length (fun x hx => h x (List.mem_cons_of_mem _ hx)), List.length_cons, Nat.add_mul]; omega
theorem rdb_slice {α : Type} {P : Program} {W : World} {t e : TypeId} {k b : Nat} {r : List Value → α → Prop} (ht : P.underlying t = some (.slice e)) (hk : P.cellsOf e = k) (hb : P.bytesOf e = b) (hk0 : 0 < k) (hr : Rdb P W e r) : Rdb P W t (PSl (old W) k b r) := fun H enc sp hd fu cs d pl h hw => by
  rcases Deep.open_slice ht h with ⟨rfl, _⟩ | ⟨a, len, cap, m, n, D, Pl, rfl, _, hl, _, hm, hx, hel⟩
  · exact ⟨[], none, 0, [], rfl, Nat.le_refl _, by simp, rfl, fun i h => by simp at h, rs_nil⟩
  · have hlm : len ≤ m := by rw [hm]; split <;> omega
    simp only [Prod.mk.injEq] at hx
    obtain ⟨rfl, _⟩ := hx
    have hall : ∀ n ∈ DataW.weights P t (DataW.slice ((List.range len).map D) ((List.range (m - len)).map fun j => D (len + j))), n ≤ reachBytes := hw
    have hw1 : (len + (m - len)) * P.bytesOf e ≤ reachBytes := by
      have := hall ((len + (m - len)) * P.bytesOf e) (by simp [DataW.weights, ht])
      exact this
    have hex : ∀ i, i < len → ∃ p : List Value × α, p.1.length = k ∧ r p.1 p.2 ∧ ∀ j v, p.1[j]? = some v → W.cell? (a.add (i * k + j)) = some v := fun i hi => by
      obtain ⟨cs', h1, h2⟩ := hel i (by omega)
      rw [hk] at h1
      obtain ⟨_, hlen, h3⟩ := World.cells?_some h1
      obtain ⟨x, hx⟩ := hr H enc sp hd n cs' (D i) (Pl i) h2 (fun n hn => hall n (by
        simp only [DataW.weights, ht, List.mem_cons, List.mem_append]
        refine .inr (.inl (weightsAll_mem (d := D i) ?_ n hn))
        exact List.mem_map.2 ⟨i, List.mem_range.2 hi, rfl⟩))
      refine ⟨(cs', x), hlen, hx, fun j v hv => ?_⟩
      have hj : j < k := by have h9 : j < cs'.length := lt_at hv; omega
      have := h3 j hj
      rw [Deep.add_add] at this
      rw [this, hv]
    rcases Nat.eq_zero_or_pos len with h0 | h0
    · subst h0
      exact ⟨[], some a, cap, [], rfl, Nat.zero_le _, by simp, rfl, fun i h => by simp at h, rs_nil⟩
    · obtain ⟨p0, _⟩ := hex 0 h0
      haveI : Inhabited (List Value × α) := ⟨p0⟩
      obtain ⟨f, hf⟩ := Deep.choose_lt hex
      refine ⟨(List.range len).map fun i => (f i).2, some a, cap, (List.range len).map fun i => (f i).1, by simp, by simpa using hl, ?_, by simp, fun i h h' => ?_, rs_old fun i v hv => ?_⟩
      · simp only [List.length_map, List.length_range, ← hb]
        exact Nat.le_trans (Nat.mul_le_mul_right _ (by omega)) hw1
      · simp only [List.length_map, List.length_range] at h
        simp only [List.getElem_map, List.getElem_range]
        exact ⟨(hf i h).1, (hf i h).2.1⟩
      · have hCk : ∀ c ∈ (List.range len).map fun i => (f i).1, c.length = k := fun c hc => by
          obtain ⟨i, hi, rfl⟩ := List.mem_map.1 hc
          exact (hf i (List.mem_range.1 hi)).1
        have hi := lt_at hv
        rw [flat_length hCk, List.length_map, List.length_range] at hi
        have hq : i / k < len := Nat.div_lt_of_lt_mul (by rw [Nat.mul_comm]; exact hi)
        have hm2 : i % k < k := Nat.mod_lt _ hk0
        have e : i = i / k * k + i % k := (Nat.div_add_mod' i k).symm
        rw [e, flat_at hCk hm2 (by simpa using hq)] at hv
        simp only [List.getElem_map, List.getElem_range] at hv
        rw [e]
        exact (hf (i / k) hq).2.2 _ v hv
theorem flat1 {α : Type} {r : List Value → α → Prop} {f : α → Value} : ∀ {Cs : List (List Value)} {xs : List α} (_ : Cs.length = xs.length) (_ : ∀ i (h : i < xs.length) (h' : i < Cs.length), Cs[i] = [f xs[i]]), Cs.flatten = xs.map f
  | [], [], _, _ => rfl
  | c :: Cs, x :: xs, hl, h => by
    have h0 := h 0 (by simp) (by simp)
    simp only [List.getElem_cons_zero] at h0
    rw [List.flatten_cons, h0, flat1 (r := r) (f := f) (Cs := Cs) (xs := xs) (by simpa using hl) (fun i hi hi' => h (i + 1) (by simpa using hi) (by simpa using hi'))]; rfl
/-- Bytes. -/
def PBys (A : SP) (cs : List Value) (xs : List Nat) : Prop := ∃ a cap, cs = [.slice a xs.length cap] ∧ xs.length ≤ cap ∧ xs.length ≤ 140737488351232 ∧ Rs A a (bys xs) ∧ ∀ x ∈ xs, x < 256
def PInts (A : SP) (cs : List Value) (xs : List Int) : Prop := ∃ a cap, cs = [.slice a xs.length cap] ∧ xs.length ≤ cap ∧ xs.length ≤ 17592186043904 ∧ Rs A a (ints xs) ∧ ∀ x ∈ xs, -9223372036854775808 ≤ x ∧ x ≤ 9223372036854775807
theorem i64_wf {x : Int} (h : (Lit.int .i64 x).wf = true) : -9223372036854775808 ≤ x ∧ x ≤ 9223372036854775807 := Go.bounds_i64 h
theorem rdb_ints {P : Program} {W : World} {t e : TypeId} (ht : P.underlying t = some (.slice e)) (he : P.underlying e = some (.int .i64)) (hk : P.cellsOf e = 1) (hb : P.bytesOf e = 8) : Rdb P W t (PInts (old W)) :=
  (rdb_slice ht hk hb (by decide) (rdb_int he)).mono fun cs zs ⟨a, cap, Cs, e1, hc, hs, hl, hx, hr⟩ => by
    refine ⟨zs, a, cap, e1, hc, by unfold reachBytes at hs; omega, ?_, fun z hz => ?_⟩
    · rw [show ints zs = Cs.flatten from (flat1 (r := PInt .i64) (f := fun z : Int => .int .i64 z) hl (fun i h h' => (hx i h h').2.1)).symm]; exact hr
    · obtain ⟨i, hi, rfl⟩ := List.mem_iff_getElem.1 hz
      exact i64_wf (hx i hi (by omega)).2.2
end Go.Vl

namespace Go.Vl
open Go Go.Proofs
abbrev ub {H : Type} (d : DataW H) : Nat := Go.Proofs.YtpjjmbmmfelooaaGreat.Rows.uptoBulk d
abbrev ubs {H : Type} (l : List (DataW H)) : Nat := Go.Proofs.YtpjjmbmmfelooaaGreat.Rows.uptoBulkAll l
/-- Whatever lies there as a value of type t, by the argument's own reading, r holds of, and of how much. -/
def Rdu {α : Type} (P : Program) (W : World) (t : TypeId) (r : List Value → α → Prop) (sz : α → Nat) : Prop :=
  ∀ (H : Type) (enc : TypeId × Value → H) (spare : Nat → Bool) (held : Bool) (fuel : Nat) (cs : List Value) (d : DataW H) (pl : List MemPlace),
    DataW.trod enc P W 0 spare held fuel t cs = some (d, pl) → ∃ x, r cs x ∧ sz x ≤ ub d
theorem Rdu.mono {α β : Type} {P : Program} {W : World} {t : TypeId} {r : List Value → α → Prop} {s : α → Nat} {q : List Value → β → Prop} {z : β → Nat} (h : Rdu P W t r s) (k : ∀ cs x, r cs x → ∃ y, q cs y ∧ z y ≤ s x) : Rdu P W t q z :=
  fun H enc sp hd fu cs d pl h1 => by
    obtain ⟨x, hx, hs⟩ := h H enc sp hd fu cs d pl h1
    obtain ⟨y, hy, hz⟩ := k cs x hx
    exact ⟨y, hy, by omega⟩
/-- A slice: its elements' cells, and what each is. -/
def PSu {α : Type} (A : SP) (k : Nat) (r : List Value → α → Prop) (cs : List Value) (xs : List α) : Prop :=
  ∃ (a : Option Addr) (cap : Nat) (Cs : List (List Value)), cs = [.slice a xs.length cap] ∧ xs.length ≤ cap ∧ Cs.length = xs.length ∧ (∀ i (h : i < xs.length) (h' : i < Cs.length), Cs[i].length = k ∧ r Cs[i] xs[i]) ∧ Rs A a Cs.flatten
def szL {α : Type} (sz : α → Nat) (xs : List α) : Nat := (xs.map sz).sum + 1
/-- Bytes. -/
def PByU (A : SP) (cs : List Value) (xs : List Nat) : Prop := ∃ a cap, cs = [.slice a xs.length cap] ∧ xs.length ≤ cap ∧ Rs A a (bys xs) ∧ ∀ x ∈ xs, x < 256
def PInU (A : SP) (cs : List Value) (xs : List Int) : Prop := ∃ a cap, cs = [.slice a xs.length cap] ∧ xs.length ≤ cap ∧ Rs A a (ints xs) ∧ ∀ x ∈ xs, -9223372036854775808 ≤ x ∧ x ≤ 9223372036854775807
end Go.Vl

namespace Go.Vl
open Go Go.Proofs
/-- An operation's cells. -/
structure Op9 where
  k : Int
  q : Int
  n : Int
  a : Option Addr
  c : Nat
  b : List Nat
  v : Nat
  ka : Option Addr
  kc : Nat
  kp : List Int
def Op9.cells (t : Op9) : List Value := [.int .i64 t.k, .int .i64 t.q, .int .i64 t.n, .slice t.a t.b.length t.c, .int .u64 (t.v : Nat), .slice t.ka t.kp.length t.kc]
structure Op9W (A : SP) (t : Op9) : Prop where
  cap : t.b.length ≤ t.c
  rs : Rs A t.a (bys t.b)
  byt : ∀ x ∈ t.b, x < 256
  v : t.v < 18446744073709551616
  kcap : t.kp.length ≤ t.kc
  krs : Rs A t.ka (ints t.kp)
  kb : ∀ x ∈ t.kp, -9223372036854775808 ≤ x ∧ x ≤ 9223372036854775807
  q : -9223372036854775808 ≤ t.q ∧ t.q ≤ 9223372036854775807
  n : -9223372036854775808 ≤ t.n ∧ t.n ≤ 9223372036854775807
def Op9.sz (t : Op9) : Nat := t.b.length + t.kp.length + 1
def ocs (l : List Op9) : List Value := l.flatMap Op9.cells
def POps (A : SP) (cs : List Value) (ops : List Op9) : Prop := ∃ a cap, cs = [.slice a ops.length cap] ∧ ops.length ≤ cap ∧ Rs A a (ocs ops) ∧ ∀ t ∈ ops, Op9W A t
/-! ### An operation on the device alone -/
def rawS (t : Op9) (s : DevS) : DevS := if t.k = 7 then (sto ((wi t.q 256 : Nat) : Int) (t.b.take (256 - wi t.q 256)) s).2 else if t.k = 8 then (fl1 ((wi t.q 256 : Nat) : Int) s).2 else if t.k = 9 then (fe s).2 else s
theorem room_le {a b : Nat} {s : DevS} (h : Room a s) (hab : b ≤ a) : Room b s := fun l hl => Nat.le_trans (Nat.add_le_add_left hab _) (h l hl)
def rawL (l : List Op9) (s : DevS) : DevS := l.foldl (fun s t => rawS t s) s
/-- The same, but what would be stored into the range is passed over. -/
def rawB (at_ m : Nat) (t : Op9) (s : DevS) : DevS := if t.k = 7 ∧ wi t.q 256 < at_ + m ∧ at_ < wi t.q 256 + t.b.length then s else rawS t s
def rawLB (at_ m : Nat) (l : List Op9) (s : DevS) : DevS := l.foldl (fun s t => rawB at_ m t s) s
attribute [local irreducible] Sl pt ro Dev imgS
end Go.Vl

namespace Go.Vl
open Go Go.Proofs
/-- Steps, one behind the other. -/
def fmtF : List (Nat × List Nat) → DevS → Int × DevS
  | [], s => (0, s)
  | t :: l, s => if (bytesP (t.1 : Int) t.2 s).1 ≠ 0 then bytesP (t.1 : Int) t.2 s else fmtF l (bytesP (t.1 : Int) t.2 s).2
def fst4 (n : Nat) : List (Nat × List Nat) := [(0, (List.replicate 64 0)), (64, (List.replicate 64 0)), (128, (List.replicate 64 0)), (0, sbB [n, 128, 32768, 32896, (n - 32896) / 256, 0])]
def stC (l : List (Nat × List Nat)) : List Value := l.flatMap fun t => .int .i64 (t.1 : Int) :: bys t.2
/-- What Format answers, and the device behind it. -/
def fmA (n : Nat) (s : DevS) : List Int × Int := if (fmtF (fst4 n) s).1 ≠ 0 then ([0, 0, 0, 0, 0], (fmtF (fst4 n) s).1) else ([(n : Int), ((128 : Nat) : Int), ((32768 : Nat) : Int), ((32896 : Nat) : Int), (((n - 32896) / 256 : Nat) : Int)], 0)
end Go.Vl

namespace Go.Vl
open Go Go.Proofs
def zz : List Nat := List.replicate 64 0
def LostI (n : Nat) (xs I : List Nat) : Prop := I.length = n ∧ I.drop 192 = xs.drop 192 ∧ (I.take 192 = xs.take 192 ∨ I.take 64 ≠ sbB [n, 128, 32768, 32896, (n - 32896) / 256, 0] ∨ (I.drop 64).take 128 = List.replicate 128 0)
def DoneI (n : Nat) (xs I : List Nat) : Prop := I.length = n ∧ I.drop 192 = xs.drop 192 ∧ I.take 64 = sbB [n, 128, 32768, 32896, (n - 32896) / 256, 0] ∧ (I.drop 64).take 128 = List.replicate 128 0
end Go.Vl

namespace Go.Vl
open Go Go.Proofs
def PSteps (A : SP) (cs : List Value) (ss : List StepC) : Prop := ∃ a cap, cs = [.slice a ss.length cap] ∧ ss.length ≤ cap ∧ ss.length ≤ 1353245080300 ∧ Rs A a (scs ss) ∧ ∀ t ∈ ss, t.v < 18446744073709551616
theorem rdb_intsA (W : World) : Rdb Tryz.prog W 26 (PInts (old W)) := rdb_ints Tryz.underlying26 Tryz.underlying3 (by kernel_rfl) (by kernel_rfl)
end Go.Vl

namespace Go.Vl
open Go Go.Proofs
structure ImC where
  sz : Int
  fl : Int
  ha : Option Addr
  hcp : Nat
  hd : List Nat
  rt : Bool
  tn : Int
def ImC.cells (t : ImC) : List Value := [.int .i64 t.sz, .int .u8 t.fl, .slice t.ha t.hd.length t.hcp, .bool t.rt, .int .i64 t.tn]
def PImg (A : SP) (cs : List Value) (t : ImC) : Prop := cs = t.cells ∧ Rs A t.ha (bys t.hd) ∧ (∀ x ∈ t.hd, x < 256) ∧ t.hd.length ≤ t.hcp ∧ t.hd.length ≤ 140737488351232 ∧ (0 ≤ t.fl ∧ t.fl < 256) ∧ (-9223372036854775808 ≤ t.tn ∧ t.tn ≤ 9223372036854775807) ∧ (-9223372036854775808 ≤ t.sz ∧ t.sz ≤ 9223372036854775807)
end Go.Vl

namespace Go.Vl
open Go Go.Proofs
/-- Rows that are read. -/
structure RwF (A : SP) (a : Option Addr) (vs : List Value) (ls : List (List Nat)) : Prop where
  len : vs.length = ls.length
  rd : Rs A a vs
  row : ∀ i (h : i < ls.length), ∃ b c, vs[i]? = some (.slice b ls[i].length c) ∧ Rs A b (bys ls[i])
theorem RwF.left {A X : SP} {a : Option Addr} {vs : List Value} {ls : List (List Nat)} (h : RwF A a vs ls) : RwF (A * X) a vs ls := ⟨h.len, h.rd.left, fun i hi => let ⟨b, c, e, hr⟩ := h.row i hi; ⟨b, c, e, hr.left⟩⟩
attribute [local irreducible] Sl pt ro imgS Parts
end Go.Vl

namespace Go.Vl
open Go Go.Proofs
/-- What Format answers of any device, and the device behind it. -/
def fmX (s : DevS) : (List Int × Int) × DevS := if 578 ≤ s.ls.length then (((fmA (s.ls.length * 64) s).1, (fmtF (fst4 (s.ls.length * 64)) s).1), (fmtF (fst4 (s.ls.length * 64)) s).2) else (([0, 0, 0, 0, 0], 80), s)
end Go.Vl

namespace Go.Vl
open Go Go.Proofs
/-- The contents of a line, by any number. -/
def ctI (p : Int) (s : DevS) : List (List Nat) := if p < 0 then [] else ctS p.toNat s
/-- What Load tells. -/
def ldB (p m : Int) (s : DevS) : List Nat := if rdy s.ls.length s.off p m = 0 then ((imgS s).drop p.toNat).take m.toNat else []
end Go.Vl

namespace Go.Vl
open Go Go.Proofs
theorem Op9W.left {A X : SP} {t : Op9} (h : Op9W A t) : Op9W (A * X) t := ⟨h.cap, h.rs.left, h.byt, h.v, h.kcap, h.krs.left, h.kb, h.q, h.n⟩
/-- What PersistLasts is handed. -/
structure RgC where
  ba : Option Addr
  bc : Nat
  bef : List Op9
  q : Int
  a : Option Addr
  c : Nat
  b : List Nat
  ha : Option Addr
  hc : Nat
  beh : List Op9
  ka : Option Addr
  kc : Nat
  kp : List Int
def RgC.cells (t : RgC) : List Value := [.slice t.ba t.bef.length t.bc, .int .i64 t.q, .slice t.a t.b.length t.c, .slice t.ha t.beh.length t.hc, .slice t.ka t.kp.length t.kc]
structure RgW (A : SP) (t : RgC) : Prop where
  hrb : Rs A t.ba (ocs t.bef)
  hwb : ∀ x ∈ t.bef, Op9W A x
  hrh : Rs A t.ha (ocs t.beh)
  hwh : ∀ x ∈ t.beh, Op9W A x
  hr : Rs A t.a (bys t.b)
  hb : ∀ x ∈ t.b, x < 256
  hcap : t.b.length ≤ t.c
  hrk : Rs A t.ka (ints t.kp)
end Go.Vl

namespace Go.Vl
open Go Go.Proofs
def xm (i : Nat) : Int := IntKind.u8.wrap (IntKind.i64.wrap ((BitVec.ofInt IntKind.i64.bits 165 ^^^ BitVec.ofInt IntKind.i64.bits (i : Int)).toNat))
/-- The marks behind a list of bytes. -/
def xmN (i : Nat) : Nat := (xm i).toNat
def spm (n : Nat) : List Nat := (List.range 80).map fun j => xmN (n + j)
def spi (n : Nat) : List Int := (List.range 9).map fun j => (7700 + ((n + j : Nat) : Int))
theorem int_lists {xs ys : List Int} {i : Nat} (h : xs.take i = ys.take i) (hi : i < xs.length) (hj : i < ys.length) (e : xs[i] = ys[i]) : xs.take (i + 1) = ys.take (i + 1) := by
  rw [List.take_succ_eq_append_getElem hi, List.take_succ_eq_append_getElem hj, h, e]
attribute [local irreducible] Sl pt ro
theorem EqInts_c {A : SP} {a1 a2 : Option Addr} {c1 c2 n m : Nat} {xs ys : List Int} (h1 : Rs A a1 (ints xs) := by repeat (first | assumption | with_reducible exact rs_sl | with_reducible exact rs_pt0 | exact rs_none | apply Rs.left)) (h2 : Rs A a2 (ints ys) := by repeat (first | assumption | with_reducible exact rs_sl | with_reducible exact rs_pt0 | exact rs_none | apply Rs.left)) (hx : xs.length = n := by first | assumption | rfl) (hy : ys.length = m := by first | assumption | rfl) (hn : n ≤ 4611686018427387904 := by omega) (hm : m ≤ 4611686018427387904 := by omega) :
    Fn Tryz.prog 68 #[.slice a1 n c1, .slice a2 m c2] (A) (fun v B => v = .bool (decide (xs = ys)) ∧ A = B) := by
  refine fn_enterW (args := [.slice a1 n c1, .slice a2 m c2]) Tryz.func68 rfl Tryz.ntmps68 (by simp) ?_; refine sr ?_; refine tla ?_; refine nq ?_; refine tc_seq ?_; refine sr ?_; refine tlm ?_; refine tv (o_len Tryz.underlying26 rfl) ?_; refine tlm ?_; refine tv (o_len Tryz.underlying26 rfl) ?_; refine tv (o_nei rfl rfl) ?_; refine nq ?_; refine tc_cond rfl (fun h => ?_) (fun h => ?_)
  · try simp only [lv1, lv2, lv3, lv4, lv5, lv6, Bool.not_true, Bool.not_false] at h
    refine sr ?_; refine tla ?_; refine nq ?_; refine tc_ret ?_; refine q_then_r ?_; refine ⟨.bool false, _, res1 rfl rfl, ?_, (by rw [decide_eq_false]; intro e; subst e; omega), rfl⟩; exact Dr.sat (by repeat (first | with_reducible exact dr_refl | apply dr_keep | apply dr_drop))
  · try simp only [lv1, lv2, lv3, lv4, lv5, lv6, Bool.not_true, Bool.not_false] at h
    refine tc_skip ?_; refine q_then_n ?_; refine tc_seq ?_; refine sr ?_; refine tla ?_; refine nq ?_; refine tc_block ?_; refine tc_loop (fun kk ρ BB => ∃ (i : Nat), (i ≤ n) ∧ (xs.take i = ys.take i) ∧ kk = n - i ∧ ρ 5 = .int .i64 (i : Nat) ∧ ρ 0 = .slice a1 n c1 ∧ ρ 1 = .slice a2 m c2 ∧ BB = A) (m := n - (0)) ?_ ?_
    · exact ⟨0, by omega, rfl, rfl, rfl, rfl, rfl, rfl⟩
    · intro k ρ B hI
      obtain ⟨i, hp0, hp1, hkk1, hE5, hE0, hE1, hBA⟩ := hI
      obtain rfl := hBA.symm
      refine tc_env (d := 5) hE5 ?_; refine tc_env (d := 0) hE0 ?_; refine tc_env (d := 1) hE1 ?_
      clear hE5 hE0 hE1
      refine tc_seq ?_; refine sr ?_; refine tlm ?_; refine tlm ?_; refine tv (o_len Tryz.underlying26 rfl) ?_; refine tv (o_lss rfl rfl) ?_; refine nq ?_; refine tc_cond rfl (fun h => ?_) (fun h => ?_)
      · have hi : i < xs.length := by simp at h; omega
        have hj : i < ys.length := by omega
        refine tc_skip ?_; refine q_then_n ?_; refine tc_seq ?_; refine tc_block ?_; refine tc_seq ?_; refine tc_regq mo (by kernel_rfl) ?_; refine ql_v rfl (o_move (by conv => lhs; whnf)) ?_; refine ql_v rfl (o_move (by conv => lhs; whnf)) ?_; refine ql_v rfl (o_ixP1 Tryz.underlying26 sz3 rfl rfl (by omega) (nn_rs h1 (fun _ => by rw [ints_length]; omega))) ?_; refine ql_v rfl (o_ldP p3 rfl h1 (ints_at hi)) ?_; refine ql_v rfl (o_move (by conv => lhs; whnf)) ?_; refine ql_v rfl (o_move (by conv => lhs; whnf)) ?_; refine ql_v rfl (o_ixP1 Tryz.underlying26 sz3 rfl rfl (by omega) (nn_rs h2 (fun _ => by rw [ints_length]; omega))) ?_; refine ql_v rfl (o_ldP p3 rfl h2 (ints_at hj)) ?_; refine ql_v rfl (o_nei rfl rfl) ?_; refine ql_nil ?_; refine q_then_n ?_; refine tc_cond rfl (fun h => ?_) (fun h => ?_)
        · try simp only [lv1, lv2, lv3, lv4, lv5, lv6, Bool.not_true, Bool.not_false] at h
          refine sr ?_; refine tla ?_; refine nq ?_; refine tc_ret ?_; refine q_block_r (q_then_r (q_then_r (q_block_r (q_then_r ?_)))); refine ⟨.bool false, _, res1 rfl rfl, ?_, (by rw [decide_eq_false]; intro e; subst e; simp at h), rfl⟩; exact Dr.sat (by repeat (first | with_reducible exact dr_refl | apply dr_keep | apply dr_drop))
        · have heq : xs[i] = ys[i] := by simpa using h
          refine tc_skip ?_; refine q_block_n (q_then_n ?_); refine tc_reg ?_; refine tlm ?_; refine tv (by first | exact o_addI rfl rfl (by omega) | exact o_add rfl rfl) ?_; refine tla ?_; refine nq ?_; exact ⟨_, by omega, i + 1, by omega, int_lists hp1 hi hj heq, rfl, rfl, rfl, rfl, rfl⟩
      · try simp only [lv1, lv2, lv3, lv4, lv5, lv6, Bool.not_true, Bool.not_false] at h
        refine tc_exit ?_; refine q_then_e (q_then_e (q_block_x (q_then_n ?_))); refine sr ?_; refine tla ?_; refine nq ?_; refine tc_ret ?_; refine ⟨.bool true, _, res1 rfl rfl, ?_, (by rw [decide_eq_true]; have e : i = n := (by simp at h; omega); rw [List.take_of_length_le (by omega), List.take_of_length_le (by omega)] at hp1; exact hp1), rfl⟩; exact Dr.sat (by repeat (first | with_reducible exact dr_refl | apply dr_keep | apply dr_drop))
end Go.Vl

namespace Go.Vl
open Go Go.Proofs
/-- How wide. -/
def wd (n : Int) : Nat := 2 ^ wi n 4
end Go.Vl

namespace Go.Vl
open Go Go.Proofs
def needN (l : List (Int × Int)) : Nat := (l.map fun x => 24 + up8 x.2.toNat).sum
attribute [local irreducible] crk crL crc Sl pt ro Dev imgS recS
theorem Open_ok {A R : SP} {C : SP → SP} {d : Nat} {s : DevS} (hc : Ct A (Dev d s) R C := by repeat (first | with_reducible exact ct_here | apply ct_left)) {p q : Int} (hp : -9223372036854775808 ≤ p ∧ p ≤ 9223372036854775807 := by omega) (hq : -9223372036854775808 ≤ q ∧ q ≤ 9223372036854775807 := by omega) (hok : (64 ≤ p ∧ p % 64 = 0 ∧ 128 ≤ q ∧ q % 64 = 0 ∧ p ≤ (s.ls.length : Int) * 64 ∧ q ≤ (s.ls.length : Int) * 64 - p) := by omega) :
    Fn Tryz.prog 38 #[.pointer (some ⟨d, 0, none⟩), .int .i64 p, .int .i64 q] (A) (fun r B => ∃ b, r = .tuple #[.pointer (some ⟨b, 0, none⟩), .int .i64 0] ∧ B = A * pt b (cl [.pointer (some ⟨d, 0, none⟩), .int .i64 p, .int .i64 q] 99)) := by
  refine fn_enterW (args := [.pointer (some ⟨d, 0, none⟩), .int .i64 p, .int .i64 q]) Tryz.func38 rfl Tryz.ntmps38 (by simp) ?_; refine tc_have (fun _ _ h => ct_wf2 hc h) fun hw => ?_
  have htop := hw.top
  have hpos := hw.pos
  obtain ⟨rfl, hC⟩ := hc
  refine sr ?_; refine tla ?_; refine tla ?_; refine nq ?_; refine sr ?_; refine tlm ?_; refine tl_c rfl (o_call bd104 rfl (Size_c (s := s))) ?_; rintro _ _ ⟨rfl, rfl⟩; refine tla ?_; refine nq ?_; refine tc_seq ?_; refine tc_block ?_; refine sr ?_; refine tlm ?_; refine tv (o_eqi rfl rfl) ?_; refine tla ?_; refine nq ?_; refine tc_cond rfl (fun h => ?_) (fun h => ?_)
  · exfalso; first | omega | (simp at h; omega)
  · try simp only [lv1, lv2, lv3, lv4, lv5, lv6, Bool.not_true, Bool.not_false] at h
    refine tc_seq ?_; refine tc_cut (fun ρ BB => ∃ (bb : Bool), (bb = decide (¬ (64 ≤ p ∧ p % 64 = 0 ∧ 128 ≤ q ∧ q % 64 = 0 ∧ p ≤ (s.ls.length : Int) * 64 ∧ q ≤ (s.ls.length : Int) * 64 - p))) ∧ ρ 14 = .bool bb ∧ ρ 0 = .pointer (some ⟨d, 0, none⟩) ∧ ρ 1 = .int .i64 p ∧ ρ 2 = .int .i64 q ∧ BB = R * Dev d s) ?_ ?_
    · skip
      refine tc_reg ?_; refine tlm ?_; refine tv (o_lss rfl rfl) ?_; refine tlm ?_; refine tl_bool (d := 17) rfl (fun h => ?_) (fun h => ?_)
      · have g17 : (p < 64) := by first | exact of_decide_eq_true h | (have h2 := h; simp at h2; omega) | simpa using h
        refine tk ?_; refine tk ?_; refine tk ?_; refine tv (o_pick_t rfl (by conv => lhs; whnf)) ?_; refine tlm ?_; refine tk ?_; refine tk ?_; refine tv (o_pick_t rfl (by conv => lhs; whnf)) ?_; refine tlm ?_; refine tk ?_; refine tk ?_; refine tk ?_; refine tv (o_pick_t rfl (by conv => lhs; whnf)) ?_; refine tlm ?_; refine tk ?_; refine tk ?_; refine tk ?_; refine tv (o_pick_t rfl (by conv => lhs; whnf)) ?_; refine tlm ?_; refine tk ?_; refine tk ?_; refine tk ?_; refine tk ?_; refine tk ?_; refine tv (o_pick_t rfl (by conv => lhs; whnf)) ?_; refine tla ?_; refine tl_nil ?_; exact ⟨_, by first | exact (decide_eq_true (by omega)).symm | exact (decide_eq_false (by omega)).symm | (rw [decide_eq_decide]; omega), rfl, rfl, rfl, rfl, rfl⟩
      · have g17 : ¬ (p < 64) := by first | exact of_decide_eq_false h | (have h2 := h; simp at h2; omega) | simpa using h
        refine tlm ?_; refine tv (by first | exact o_remI rfl rfl (by omega) | exact o_rem rfl rfl (by omega)) ?_; refine tv (o_nei rfl rfl) ?_; refine tv (o_pick_f rfl (by conv => lhs; whnf)) ?_; refine tlm ?_; refine tl_bool (d := 22) rfl (fun h => ?_) (fun h => ?_)
        · have g22 : (p < 64 ∨ p % 64 ≠ 0) := by first | exact of_decide_eq_true h | (have h2 := h; simp at h2; omega) | simpa using h
          refine tk ?_; refine tk ?_; refine tv (o_pick_t rfl (by conv => lhs; whnf)) ?_; refine tlm ?_; refine tk ?_; refine tk ?_; refine tk ?_; refine tv (o_pick_t rfl (by conv => lhs; whnf)) ?_; refine tlm ?_; refine tk ?_; refine tk ?_; refine tk ?_; refine tv (o_pick_t rfl (by conv => lhs; whnf)) ?_; refine tlm ?_; refine tk ?_; refine tk ?_; refine tk ?_; refine tk ?_; refine tk ?_; refine tv (o_pick_t rfl (by conv => lhs; whnf)) ?_; refine tla ?_; refine tl_nil ?_; exact ⟨_, by first | exact (decide_eq_true (by omega)).symm | exact (decide_eq_false (by omega)).symm | (rw [decide_eq_decide]; omega), rfl, rfl, rfl, rfl, rfl⟩
        · have g22 : ¬ (p < 64 ∨ p % 64 ≠ 0) := by first | exact of_decide_eq_false h | (have h2 := h; simp at h2; omega) | simpa using h
          refine tlm ?_; refine tv (o_lss rfl rfl) ?_; refine tv (o_pick_f rfl (by conv => lhs; whnf)) ?_; refine tlm ?_; refine tl_bool (d := 26) rfl (fun h => ?_) (fun h => ?_)
          · have g26 : (p < 64 ∨ p % 64 ≠ 0 ∨ q < 128) := by first | exact of_decide_eq_true h | (have h2 := h; simp at h2; omega) | simpa using h
            refine tk ?_; refine tk ?_; refine tk ?_; refine tv (o_pick_t rfl (by conv => lhs; whnf)) ?_; refine tlm ?_; refine tk ?_; refine tk ?_; refine tk ?_; refine tv (o_pick_t rfl (by conv => lhs; whnf)) ?_; refine tlm ?_; refine tk ?_; refine tk ?_; refine tk ?_; refine tk ?_; refine tk ?_; refine tv (o_pick_t rfl (by conv => lhs; whnf)) ?_; refine tla ?_; refine tl_nil ?_; exact ⟨_, by first | exact (decide_eq_true (by omega)).symm | exact (decide_eq_false (by omega)).symm | (rw [decide_eq_decide]; omega), rfl, rfl, rfl, rfl, rfl⟩
          · have g26 : ¬ (p < 64 ∨ p % 64 ≠ 0 ∨ q < 128) := by first | exact of_decide_eq_false h | (have h2 := h; simp at h2; omega) | simpa using h
            refine tlm ?_; refine tv (by first | exact o_remI rfl rfl (by omega) | exact o_rem rfl rfl (by omega)) ?_; refine tv (o_nei rfl rfl) ?_; refine tv (o_pick_f rfl (by conv => lhs; whnf)) ?_; refine tlm ?_; refine tl_bool (d := 31) rfl (fun h => ?_) (fun h => ?_)
            · have g31 : (p < 64 ∨ p % 64 ≠ 0 ∨ q < 128 ∨ q % 64 ≠ 0) := by first | exact of_decide_eq_true h | (have h2 := h; simp at h2; omega) | simpa using h
              refine tk ?_; refine tk ?_; refine tk ?_; refine tv (o_pick_t rfl (by conv => lhs; whnf)) ?_; refine tlm ?_; refine tk ?_; refine tk ?_; refine tk ?_; refine tk ?_; refine tk ?_; refine tv (o_pick_t rfl (by conv => lhs; whnf)) ?_; refine tla ?_; refine tl_nil ?_; exact ⟨_, by first | exact (decide_eq_true (by omega)).symm | exact (decide_eq_false (by omega)).symm | (rw [decide_eq_decide]; omega), rfl, rfl, rfl, rfl, rfl⟩
            · have g31 : ¬ (p < 64 ∨ p % 64 ≠ 0 ∨ q < 128 ∨ q % 64 ≠ 0) := by first | exact of_decide_eq_false h | (have h2 := h; simp at h2; omega) | simpa using h
              refine tlm ?_; refine tlm ?_; refine tv (o_gtr rfl rfl) ?_; refine tv (o_pick_f rfl (by conv => lhs; whnf)) ?_; refine tlm ?_; refine tl_bool (d := 36) rfl (fun h => ?_) (fun h => ?_)
              · have g36 : (p < 64 ∨ p % 64 ≠ 0 ∨ q < 128 ∨ q % 64 ≠ 0 ∨ (s.ls.length : Int) * 64 < p) := by first | exact of_decide_eq_true h | (have h2 := h; simp at h2; omega) | simpa using h
                refine tk ?_; refine tk ?_; refine tk ?_; refine tk ?_; refine tk ?_; refine tv (o_pick_t rfl (by conv => lhs; whnf)) ?_; refine tla ?_; refine tl_nil ?_; exact ⟨_, by first | exact (decide_eq_true (by omega)).symm | exact (decide_eq_false (by omega)).symm | (rw [decide_eq_decide]; omega), rfl, rfl, rfl, rfl, rfl⟩
              · have g36 : ¬ (p < 64 ∨ p % 64 ≠ 0 ∨ q < 128 ∨ q % 64 ≠ 0 ∨ (s.ls.length : Int) * 64 < p) := by first | exact of_decide_eq_false h | (have h2 := h; simp at h2; omega) | simpa using h
                refine tlm ?_; refine tlm ?_; refine tlm ?_; refine tv (o_subI rfl rfl (by omega)) ?_; refine tv (o_gtr rfl rfl) ?_; refine tv (o_pick_f rfl (by conv => lhs; whnf)) ?_; refine tla ?_; refine tl_nil ?_; exact ⟨_, by first | exact (decide_eq_true (by omega)).symm | exact (decide_eq_false (by omega)).symm | (rw [decide_eq_decide]; omega), rfl, rfl, rfl, rfl, rfl⟩
    · intro ρ B hI
      obtain ⟨bb, hbb0, hE14, hE0, hE1, hE2, rfl⟩ := hI
      refine q_then_n ?_; refine tc_env (d := 14) hE14 ?_; refine tc_env (d := 0) hE0 ?_; refine tc_env (d := 1) hE1 ?_; refine tc_env (d := 2) hE2 ?_
      clear hE14 hE0 hE1 hE2
      refine tc_cond rfl (fun h => ?_) (fun h => ?_)
      · exfalso; rw [h] at hbb0; have := of_decide_eq_true hbb0.symm; omega
      · try simp only [lv1, lv2, lv3, lv4, lv5, lv6, Bool.not_true, Bool.not_false] at h
        refine tc_skip ?_; refine q_block_n (q_then_n ?_); refine sr ?_; refine tlm ?_; refine tlm ?_; refine tlm ?_; refine tv (o_bS (l := [_, _, _]) (pv_cons (by conv => lhs; whnf) (pv_cons (by conv => lhs; whnf) (pv_cons (by conv => lhs; whnf) pv_nil))) Tryz.underlying99 z99 (pl99 Tryz.underlying99) rfl) ?_; refine tl_x rfl (o_box rfl rfl) ?_; rintro _ _ ⟨b47, rfl, rfl⟩; refine tla ?_; refine tla ?_; refine nq ?_; refine tc_ret ?_; exact ⟨_, _, res2 rfl rfl rfl, fun _ _ h => h, b47, rfl, rfl⟩
theorem ready11_c {A R : SP} {C : SP → SP} {d : Nat} {s : DevS} (hc : Ct A (Dev d s) R C := by repeat (first | with_reducible exact ct_here | apply ct_left)) {bl at_ sz : Nat} (hl : Has R bl (cl (lcs11 d at_ sz) 99) := by (repeat (first | assumption | with_reducible exact has_here | with_reducible exact has_pt | apply has_left))) :
    Fn Tryz.prog 162 #[.pointer (some ⟨bl, 0, none⟩)] (A) (fun r B => r = .int .i64 (stE s) ∧ A = B) := by
  refine fn_enterW (args := [.pointer (some ⟨bl, 0, none⟩)]) Tryz.func162 rfl Tryz.ntmps162 (by simp) ?_
  obtain ⟨rfl, hC⟩ := hc
  refine sr ?_; refine tla ?_; refine nq ?_; refine tc_seq ?_; refine tc_block ?_; refine sr ?_; refine tlm ?_; refine tv (o_eqp Tryz.underlying89 rfl rfl) ?_; refine tlm ?_; refine tl_bool (d := 6) rfl (fun h => ?_) (fun h => ?_)
  · exfalso; simp at h
  · try simp only [lv1, lv2, lv3, lv4, lv5, lv6, Bool.not_true, Bool.not_false] at h
    refine tlm ?_; refine tv (o_nilCheck rfl) ?_; refine tv (o_fieldAddr (o := 0) Tryz.underlying99 rfl rfl sz47 rfl) ?_; refine tv (o_load p47 rfl (by repeat (first | assumption | apply has_left)) rfl) ?_; refine tv (o_eqp Tryz.underlying47 rfl rfl) ?_; refine tv (o_pick_f rfl (by conv => lhs; whnf)) ?_; refine tla ?_; refine nq ?_; refine tc_cond rfl (fun h => ?_) (fun h => ?_)
    · exfalso; simp at h
    · try simp only [lv1, lv2, lv3, lv4, lv5, lv6, Bool.not_true, Bool.not_false] at h
      refine sr ?_; refine tlm ?_; refine tv (o_nilCheck rfl) ?_; refine tv (o_fieldAddr (o := 0) Tryz.underlying99 rfl rfl sz47 rfl) ?_; refine tv (o_load p47 rfl (by repeat (first | assumption | apply has_left)) rfl) ?_; refine tl_c rfl (o_call bd58 rfl (Off_c (s := s))) ?_; rintro _ _ ⟨rfl, rfl⟩; refine tla ?_; refine nq ?_; refine tc_cond rfl (fun h => ?_) (fun h => ?_)
      · have ho : s.off = true := by first | exact h | simpa using h
        refine sr ?_; refine tla ?_; refine nq ?_; refine tc_ret ?_; refine q_block_r (q_then_r ?_); exact ⟨.int .i64 5, _, res1 rfl rfl, fun _ _ h => h, by unfold stE; rw [if_pos ho], rfl⟩
      · have ho : s.off = false := by first | exact h | simpa using h
        refine tc_skip ?_; refine q_block_n (q_then_n ?_); refine sr ?_; refine tla ?_; refine nq ?_; refine tc_ret ?_; exact ⟨.int .i64 0, _, res1 rfl rfl, fun _ _ h => h, by unfold stE; rw [if_neg (by rw [ho]; decide)], rfl⟩
end Go.Vl

namespace Go.Vl
open Go Go.Proofs
def xcl (l : List (Int × Int)) : List Value := l.flatMap xcs
theorem word_in {p : Nat} {s : DevS} (ho : s.off = false) (hp : p % 8 = 0) (hi : p + 8 ≤ s.ls.length * 64) : wordP (p : Nat) s = (nm (((imgS s).drop p).take 8), 0) := by
  unfold wordP loadP
  rw [if_neg (by rw [ho]; decide), if_neg (by omega), ho, if_neg (by rw [rdy_ok (by omega) (by omega) (by omega)]; decide), Int.toNat_natCast]
theorem nm8_lt {l : List Nat} (h : ∀ x ∈ l, x < 256) : nm (l.take 8) < 18446744073709551616 := by
  have h1 := nm_lt (l.take 8) fun x hx => h x (List.mem_of_mem_take hx)
  exact Nat.lt_of_lt_of_le h1 (by calc 256 ^ (l.take 8).length ≤ 256 ^ 8 := Nat.pow_le_pow_right (by decide) (List.length_take_le _ _)
    _ = 18446744073709551616 := by decide)
attribute [local irreducible] crk crL crc Sl pt ro Dev imgS recS
end Go.Vl

namespace Go.Vl
open Go Go.Proofs
/-! ### Losses of power that may come yet -/
def phi (s : DevS) : Nat := s.arms.length + (if s.off = true then 1 else 0)
/-! ### Images, line by line -/
theorem chunk_at {q j : Nat} {I : List Nat} (h : j < 64) : (chunk q I)[j]? = I[q * 64 + j]? := by
  unfold chunk; rw [List.getElem?_take, if_pos h, List.getElem?_drop]
/-- Every content of every line is that of an image. -/
def Same (I : List Nat) (s : DevS) : Prop := Poss (fun q c => c = chunk q I) s
/-! ### A number is published -/
/-! ### Records are stored -/
def recsB (I : List Nat) (l : List (Int × Int)) : List Nat := l.flatMap fun x => recS x.1.toNat ((I.drop x.1.toNat).take x.2.toNat)
/-- Outside a range the images are alike. -/
def Out (a b : Nat) (I J : List Nat) : Prop := ∀ i, ¬ (a ≤ i ∧ i < b) → I[i]? = J[i]?
theorem Out.refl (a b : Nat) (I : List Nat) : Out a b I I := fun _ _ => rfl
theorem Out.trans {a b : Nat} {I J K : List Nat} (h1 : Out a b I J) (h2 : Out a b J K) : Out a b I K := fun i hi => (h1 i hi).trans (h2 i hi)
end Go.Vl

namespace Go.Vl
open Go Go.Proofs
attribute [local irreducible] crk crL crc Sl pt ro Dev imgS recS
theorem CloneBN_f {A : SP} {n c : Nat} :
    Fn Tryz.prog 216 #[.slice none n c] (A) (fun r B => r = .slice none 0 0 ∧ A = B) := by
  refine fn_enterW (args := [.slice none n c]) Tryz.func216 rfl Tryz.ntmps216 (by simp) ?_; refine sr ?_; refine tla ?_; refine nq ?_; refine tc_seq ?_; refine sr ?_; refine tlm ?_; refine tv (o_eqs Tryz.underlying57 rfl rfl) ?_; refine nq ?_; refine tc_cond rfl (fun h => ?_) (fun h => ?_)
  · try simp only [lv1, lv2, lv3, lv4, lv5, lv6, Bool.not_true, Bool.not_false] at h
    refine sr ?_; refine tla ?_; refine nq ?_; refine tc_ret ?_; refine q_then_r ?_; exact ⟨_, _, res1 rfl rfl, fun _ _ h => h, rfl, rfl⟩
  · (exfalso; first | (revert h; simp; done) | (simp at h; done) | (revert h; simp; omega) | (simp at h; omega) | omega)
theorem CloneBS_f {A : SP} {n c : Nat} {p : Addr} {xs : List Value} (hr : Rs A (some p) xs) (hl : xs.length = n * 1) (ho : xs.all oneC = true) (hs : n ≤ 5864062014800) :
    Fn Tryz.prog 216 #[.slice (some p) n c] (A) (fun r B => ∃ a2 c2, r = .slice a2 n c2 ∧ n ≤ c2 ∧ B = A * Sl 1 (.slice a2 n c2) n xs) := by
  refine fn_enterW (args := [.slice (some p) n c]) Tryz.func216 rfl Tryz.ntmps216 (by simp) ?_; refine sr ?_; refine tla ?_; refine nq ?_; refine tc_seq ?_; refine sr ?_; refine tlm ?_; refine tv (o_eqs Tryz.underlying57 rfl rfl) ?_; refine nq ?_; refine tc_cond rfl (fun h => ?_) (fun h => ?_)
  · exfalso; simp at h
  · try simp only [lv1, lv2, lv3, lv4, lv5, lv6, Bool.not_true, Bool.not_false] at h
    refine tc_skip ?_; refine q_then_n ?_; refine tc_seq ?_
    skip
    refine tc_reg ?_; refine tl_x rfl (o_buildSlice0 Tryz.underlying57 sz5 rfl) ?_; rintro _ _ ⟨b5, rfl, rfl⟩; refine tl_pre (A' := A * Sl 1 (.slice (some ⟨b5, 0, none⟩) 0 0) 0 []) (fun _ _ h => sl_new h (Nat.le_refl _) (by simp) (by simp)) ?_; refine tlm ?_; refine tl_x rfl (o_apR Tryz.underlying57 Tryz.underlying57 sz5 by5 z5 rfl (by decide) (by decide) rfl rfl (by repeat (first | with_reducible exact ct_here | apply ct_left)) (hr.left) hl ho (by omega) (List.nil_append _)) ?_; rintro _ _ ⟨a7, c7, rfl, hc7, rfl⟩; refine tla ?_; refine nq ?_; refine tc_ret ?_; exact ⟨.slice a7 (0 + n) c7, A * Sl 1 (.slice a7 (0 + n) c7) (0 + n) xs, res1 rfl rfl, fun _ _ h => h, a7, c7, by rw [Nat.zero_add], by rw [Nat.zero_add] at hc7; exact hc7, by rw [Nat.zero_add]⟩
theorem CloneB_c {A : SP} {a : Option Addr} {n c : Nat} {l : List Nat} (hr : Rs A a (bys l) := by repeat (first | assumption | with_reducible exact rs_sl | with_reducible exact rs_pt0 | exact rs_none | apply Rs.left)) (hm : l.length = n := by first | assumption | rfl) (hs : n ≤ 5864062014800 := by omega) :
    Fn Tryz.prog 216 #[.slice a n c] A (fun r B => ∃ a2 c2, r = .slice a2 n c2 ∧ n ≤ c2 ∧ B = A * Sl 1 (.slice a2 n c2) n (bys l)) := by
  have hl : (bys l).length = n * 1 := by rw [bys_length, hm, Nat.mul_one]
  cases a with
  | none =>
    intro g w hs2
    have hx : bys l = [] := by
      rcases hr.rd hs2 with h | ⟨b, o, e, _⟩
      · exact h
      · cases e
    have hn : n = 0 := by rw [hx] at hl; simp at hl; omega
    subst hn
    rw [hx]
    refine (CloneBN_f (n := 0) (c := c) g w hs2).mono ?_; rintro e w' ⟨v, B, rfl, ⟨rfl, rfl⟩, hB⟩; exact ⟨_, _, rfl, ⟨none, 0, rfl, Nat.le_refl _, rfl⟩, sl_nil hB⟩
  | some p => exact CloneBS_f hr hl (bys_all l) hs
theorem EqualB_c {A : SP} {a1 a2 : Option Addr} {c1 c2 n m : Nat} {xs ys : List Nat} (h1 : Rs A a1 (bys xs) := by repeat (first | assumption | with_reducible exact rs_sl | with_reducible exact rs_pt0 | exact rs_none | apply Rs.left)) (h2 : Rs A a2 (bys ys) := by repeat (first | assumption | with_reducible exact rs_sl | with_reducible exact rs_pt0 | exact rs_none | apply Rs.left)) (hx : xs.length = n := by first | assumption | rfl) (hy : ys.length = m := by first | assumption | rfl) (hn : n ≤ 4611686018427387904 := by omega) :
    Fn Tryz.prog 217 #[.slice a1 n c1, .slice a2 m c2] (A) (fun r B => r = .bool (decide (xs = ys)) ∧ A = B) := by
  refine fn_enterW (args := [.slice a1 n c1, .slice a2 m c2]) Tryz.func217 rfl Tryz.ntmps217 (by simp) ?_; refine sr ?_; refine tla ?_; refine nq ?_; refine tc_seq ?_; refine sr ?_; refine tlm ?_; refine tv (o_len Tryz.underlying57 rfl) ?_; refine tlm ?_; refine tv (o_len Tryz.underlying57 rfl) ?_; refine tv (o_nei rfl rfl) ?_; refine nq ?_; refine tc_cond rfl (fun h => ?_) (fun h => ?_)
  · try simp only [lv1, lv2, lv3, lv4, lv5, lv6, Bool.not_true, Bool.not_false] at h
    refine sr ?_; refine tla ?_; refine nq ?_; refine tc_ret ?_; refine q_then_r ?_
    have e : decide (xs = ys) = false := decide_eq_false fun e => by subst e; first | omega | (simp at h; omega)
    rw [e]
    exact ⟨.bool false, A, res1 rfl rfl, Dr.sat (by repeat (first | with_reducible exact dr_refl | apply dr_keep | apply dr_drop)), rfl, rfl⟩
  · obtain rfl : n = m := by first | omega | (simp at h; omega)
    refine tc_skip ?_; refine q_then_n ?_; refine tc_seq ?_; refine sr ?_; refine tlm ?_; refine tv (o_len Tryz.underlying57 rfl) ?_; refine tlm ?_; refine nq ?_; refine tc_block ?_; refine tc_loop (fun kk ρ BB => ∃ (i : Nat), (i ≤ n) ∧ (xs.take i = ys.take i) ∧ kk = n - i ∧ ρ 13 = .int .i64 (i : Nat) ∧ ρ 0 = .slice a1 n c1 ∧ ρ 1 = .slice a2 n c2 ∧ ρ 12 = .int .i64 (n : Nat) ∧ BB = A) (m := n - (0)) ?_ ?_
    · exact ⟨0, by omega, rfl, rfl, rfl, rfl, rfl, rfl, rfl⟩
    · intro k ρ B hI
      obtain ⟨i, hp0, hp1, hkk1, hE13, hE0, hE1, hE12, hBA⟩ := hI
      obtain rfl := hBA.symm
      refine tc_env (d := 13) hE13 ?_; refine tc_env (d := 0) hE0 ?_; refine tc_env (d := 1) hE1 ?_; refine tc_env (d := 12) hE12 ?_
      clear hE13 hE0 hE1 hE12
      refine sr ?_; refine tv (o_lss rfl rfl) ?_; refine nq ?_; refine tc_seq ?_; refine tc_cond rfl (fun h => ?_) (fun h => ?_)
      · have hi : i < xs.length := by first | omega | (simp at h; omega)
        have hi2 : i < ys.length := by omega
        refine tc_skip ?_; refine q_then_n ?_; refine tc_seq ?_; refine tc_block ?_; refine sr ?_; refine tlm ?_; refine tla ?_; refine nq ?_; refine tc_seq ?_; refine tc_regq mo (by kernel_rfl) ?_; refine ql_v rfl (o_move (by conv => lhs; whnf)) ?_; refine ql_v rfl (o_move (by conv => lhs; whnf)) ?_; refine ql_v rfl (o_ixP1 Tryz.underlying57 sz5 rfl rfl (by omega) (nn_rs h1 (by rw [bys_length]; omega))) ?_; refine ql_v rfl (o_ldP p5 rfl h1 (bys_at hi)) ?_; refine ql_v rfl (o_move (by conv => lhs; whnf)) ?_; refine ql_v rfl (o_move (by conv => lhs; whnf)) ?_; refine ql_v rfl (o_ixP1 Tryz.underlying57 sz5 rfl rfl (by omega) (nn_rs h2 (by rw [bys_length]; omega))) ?_; refine ql_v rfl (o_ldP p5 rfl h2 (bys_at hi2)) ?_; refine ql_v rfl (o_nei rfl rfl) ?_; refine ql_nil ?_; refine q_then_n ?_; refine tc_cond rfl (fun h => ?_) (fun h => ?_)
        · have hne : xs[i] ≠ ys[i] := fun e => by rw [e] at h; simp at h
          refine sr ?_; refine tla ?_; refine nq ?_; refine tc_ret ?_; refine q_block_r (q_then_r (q_then_r (q_block_r (q_then_r ?_))))
          have e : decide (xs = ys) = false := decide_eq_false fun e => by subst e; exact hne rfl
          rw [e]
          exact ⟨.bool false, A, res1 rfl rfl, Dr.sat (by repeat (first | with_reducible exact dr_refl | apply dr_keep | apply dr_drop)), rfl, rfl⟩
        · have heq : ((xs[i] : Nat) : Int) = ((ys[i] : Nat) : Int) := by first | omega | (simpa using h)
          refine tc_skip ?_; refine q_block_n (q_then_n ?_); refine tc_reg ?_; refine tv (by first | exact o_addI rfl rfl (by omega) | exact o_add rfl rfl) ?_; refine tlm ?_; refine nq ?_; exact ⟨_, by omega, i + 1, by omega, take_succ_eq hp1 (by omega) (by omega) (by omega), rfl, rfl, rfl, rfl, rfl, rfl⟩
      · try simp only [lv1, lv2, lv3, lv4, lv5, lv6, Bool.not_true, Bool.not_false] at h
        refine tc_exit ?_; refine q_then_e (q_then_e (q_block_x (q_then_n ?_))); refine sr ?_; refine tla ?_; refine nq ?_; refine tc_ret ?_
        have e : decide (xs = ys) = true := decide_eq_true (take_all hp1 (by omega) (by omega))
        rw [e]
        exact ⟨.bool true, A, res1 rfl rfl, Dr.sat (by repeat (first | with_reducible exact dr_refl | apply dr_keep | apply dr_drop)), rfl, rfl⟩
theorem field_c {A : SP} {a : Option Addr} {c m p w : Nat} {xs : List Nat} (q : Nat) (hq : q = p + w * 8 := by omega) (hr : Rs A a (bys xs) := by repeat (first | assumption | with_reducible exact rs_sl | with_reducible exact rs_pt0 | exact rs_none | apply Rs.left)) (hm : xs.length = m := by first | assumption | rfl) (hb : ∀ x ∈ xs, x < 256 := by assumption) (h8 : q + 8 ≤ m := by omega) (hl : m ≤ 1099511627776 := by omega) :
    Fn Tryz.prog 215 #[.slice a m c, .int .i64 (p : Nat), .int .i64 (w : Nat)] (A) (fun r B => r = .int .u64 ((nm ((xs.drop q).take 8) : Nat) : Int) ∧ A = B) := by
  refine fn_enterW (args := [.slice a m c, .int .i64 (p : Nat), .int .i64 (w : Nat)]) Tryz.func215 rfl Tryz.ntmps215 (by simp) ?_
  subst hq
  refine sr ?_; refine tla ?_; refine nq ?_; refine sr ?_; refine tlm ?_; refine tlm ?_; refine tlm ?_; refine tv (by first | exact o_mulI rfl rfl (by omega) | exact o_mul rfl rfl) ?_; refine tl_env (d := 13) (v := .int .i64 ((w * 8 : Nat) : Int)) (by first | rfl | (show Value.int .i64 (IntKind.i64.wrap ((w * 8 : Nat) : Int)) = _; rw [wr_i64 (by omega)])) ?_; refine tv (by first | exact o_addI rfl rfl (by omega) | exact o_add rfl rfl) ?_; refine tl_env (d := 14) (v := .int .i64 ((p + w * 8 : Nat) : Int)) (by first | rfl | (show Value.int .i64 _ = _; congr 1; omega)) ?_; refine tl_c rfl (o_call bd114 rfl (Take64_c (p := p + w * 8) (xs := xs))) ?_; rintro _ _ ⟨rfl, rfl⟩; refine tlm ?_; refine tv (o_extract rfl rfl) ?_; refine tv (o_extract rfl rfl) ?_; refine tla ?_; refine tla ?_; refine nq ?_; refine sr ?_; refine tlm ?_; refine tla ?_; refine nq ?_; refine tc_ret ?_; exact ⟨_, A, res1 rfl rfl, Dr.sat (by repeat (first | with_reducible exact dr_refl | apply dr_keep | apply dr_drop)), rfl, rfl⟩
def rdW (o : Option ((Nat × List Nat) × Nat)) : Nat := match o with | none => 0 | some x => x.1.1
def rdO (o : Option ((Nat × List Nat) × Nat)) : List Nat := match o with | none => [] | some x => x.1.2
def rkT (o : Option ((Nat × List Nat) × Nat)) : Nat := match o with | none => 0 | some x => x.2
theorem read_short {n at_ sz p : Nat} {room : List Nat} (h : room.length < p + 24) : readS n at_ sz room p = none := by unfold readS; rw [if_pos h]
theorem read_may {n at_ sz p : Nat} {room : List Nat} (h : mayX n at_ sz ((nm ((room.drop p).take 8) : Nat), (nm ((room.drop (p + 8)).take 8) : Nat)) = false) : readS n at_ sz room p = none := by
  unfold readS
  by_cases h0 : room.length < p + 24
  · rw [if_pos h0]
  · rw [if_neg h0, if_pos h]
theorem read_need {n at_ sz p : Nat} {room : List Nat} (h : room.length < p + (24 + up8 (nm ((room.drop (p + 8)).take 8)))) : readS n at_ sz room p = none := by
  unfold readS
  by_cases h0 : room.length < p + 24
  · rw [if_pos h0]
  · rw [if_neg h0]
    by_cases h1 : mayX n at_ sz ((nm ((room.drop p).take 8) : Nat), (nm ((room.drop (p + 8)).take 8) : Nat)) = false
    · rw [if_pos h1]
    · rw [if_neg h1, if_pos h]
theorem read_bad {n at_ sz p w m : Nat} {room : List Nat} (hw : nm ((room.drop p).take 8) = w) (hm : nm ((room.drop (p + 8)).take 8) = m) (h : recS w ((room.drop (p + 24)).take m) ≠ (room.drop p).take (24 + up8 m)) : readS n at_ sz room p = none := by
  subst hw hm; unfold readS
  by_cases h0 : room.length < p + 24
  · rw [if_pos h0]
  · rw [if_neg h0]
    by_cases h1 : mayX n at_ sz ((nm ((room.drop p).take 8) : Nat), (nm ((room.drop (p + 8)).take 8) : Nat)) = false
    · rw [if_pos h1]
    · rw [if_neg h1]
      by_cases h2 : room.length < p + (24 + up8 (nm ((room.drop (p + 8)).take 8)))
      · rw [if_pos h2]
      · rw [if_neg h2, if_pos h]
theorem read_good {n at_ sz p w m : Nat} {room : List Nat} (hw : nm ((room.drop p).take 8) = w) (hm : nm ((room.drop (p + 8)).take 8) = m) (h1 : ¬ room.length < p + 24) (h2 : mayX n at_ sz ((w : Int), (m : Int)) = true) (h3 : ¬ room.length < p + (24 + up8 m)) (h : recS w ((room.drop (p + 24)).take m) = (room.drop p).take (24 + up8 m)) : readS n at_ sz room p = some ((w, (room.drop (p + 24)).take m), 24 + up8 m) := by
  subst hw hm; unfold readS; rw [if_neg h1, if_neg (by rw [h2]; decide), if_neg h3, if_neg (by rw [h]; simp)]
theorem may_big {n at_ sz w m : Nat} (hn : n ≤ 4194304) (h : 4194304 < w ∨ 4194304 < m) : mayX n at_ sz ((w : Int), (m : Int)) = false := decide_eq_false (by show ¬ ((1 : Int) ≤ (m : Int) ∧ (64 : Int) ≤ (w : Int) ∧ (w : Int) + (m : Int) ≤ (n : Int) ∧ _); omega)
theorem may_zero1 {n at_ sz w m : Nat} (h : m < 1) : mayX n at_ sz ((w : Int), (m : Int)) = false := decide_eq_false (by show ¬ ((1 : Int) ≤ (m : Int) ∧ (64 : Int) ≤ (w : Int) ∧ (w : Int) + (m : Int) ≤ (n : Int) ∧ _); omega)
theorem need_one {m : Nat} (h : 1 ≤ m) (h2 : m ≤ 4194304) : needS [(m : Int)] = (((24 + up8 m : Nat) : Int), 0) := by
  have := up8_le m
  unfold needS
  rw [needF_cons h]
  have e : rndS m = (((up8 m : Nat) : Int), 0) := by unfold rndS; have : pad8 m < 8 := (by unfold pad8; omega); rw [if_neg (by omega)]
  rw [e, if_neg (by simp only [ne_eq, not_true, false_or]; omega)]
  show ((0 : Int) + 24 + ((up8 m : Nat) : Int), (0 : Int)) = _
  congr 1
theorem need_zero : needS [((0 : Nat) : Int)] = (0, 2) := needF_bad (by decide)
set_option maxRecDepth 20000 in
set_option maxHeartbeats 2000000 in
theorem read_c {A R : SP} {C : SP → SP} {d : Nat} {s : DevS} (hc : Ct A (Dev d s) R C := by repeat (first | with_reducible exact ct_here | apply ct_left)) {bl at_ sz : Nat} (hl : Has R bl (cl (lcs11 d at_ sz) 99) := by (repeat (first | assumption | with_reducible exact has_here | with_reducible exact has_pt | apply has_left))) (hlw : LogW (s.ls.length * 64) at_ sz := by assumption) {a : Option Addr} {c rm p : Nat} {room : List Nat} (hr : Rs R a (bys room) := by repeat (first | assumption | with_reducible exact rs_sl | with_reducible exact rs_pt0 | exact rs_none | apply Rs.left)) (hm : room.length = rm := by first | assumption | rfl) (hmc : rm ≤ c := by omega) (hb : ∀ x ∈ room, x < 256 := by assumption) (hrm : rm ≤ 4194304 := by omega) (hp : p ≤ rm := by omega) :
    Fn Tryz.prog 170 #[.pointer (some ⟨bl, 0, none⟩), .slice a rm c, .int .i64 (p : Nat)] (A) (fun r B => ∃ a2 c2, r = .tuple #[.agg #[.int .i64 ((rdW (readS (s.ls.length * 64) at_ sz room p) : Nat) : Int), .slice a2 (rdO (readS (s.ls.length * 64) at_ sz room p)).length c2], .int .i64 ((rkT (readS (s.ls.length * 64) at_ sz room p) : Nat) : Int), .bool (readS (s.ls.length * 64) at_ sz room p).isSome] ∧ (rdO (readS (s.ls.length * 64) at_ sz room p)).length ≤ c2 ∧ B = C (Dev d s) * Sl 1 (.slice a2 (rdO (readS (s.ls.length * 64) at_ sz room p)).length c2) (rdO (readS (s.ls.length * 64) at_ sz room p)).length (bys (rdO (readS (s.ls.length * 64) at_ sz room p)))) := by
  refine fn_enterW (args := [.pointer (some ⟨bl, 0, none⟩), .slice a rm c, .int .i64 (p : Nat)]) Tryz.func170 rfl Tryz.ntmps170 (by simp) ?_; refine tc_have (fun _ _ h => ct_wf2 hc h) fun hw => ?_
  have htop := hw.top
  have hpos := hw.pos
  obtain ⟨rfl, hC⟩ := hc
  rw [hC]
  have hlw9 := hlw
  obtain ⟨w1, w2, w3, w4, w5⟩ := hlw9
  obtain ⟨w, hwq⟩ : ∃ w, (nm ((room.drop p).take 8)) = w := ⟨_, rfl⟩
  obtain ⟨m, hmq⟩ : ∃ m, (nm ((room.drop (p + 8)).take 8)) = m := ⟨_, rfl⟩
  have hw8 : w < 18446744073709551616 := hwq ▸ nm8_lt fun x hx => hb x (List.mem_of_mem_drop hx)
  have hm8 : m < 18446744073709551616 := hmq ▸ nm8_lt fun x hx => hb x (List.mem_of_mem_drop hx)
  refine sr ?_; refine tl_x rfl (o_alloc z253 rfl) ?_; rintro _ _ ⟨b6, rfl, rfl⟩; refine tla ?_; refine tla ?_; refine nq ?_; refine tc_seq ?_; refine sr ?_; refine tlm ?_; refine tv (o_len Tryz.underlying57 rfl) ?_; refine tlm ?_; refine tv (o_subI rfl rfl (by omega)) ?_; refine tv (o_lss rfl rfl) ?_; refine nq ?_; refine tc_cond rfl (fun h => ?_) (fun h => ?_)
  · have hsh : room.length < p + 24 := by first | omega | (simp at h; omega)
    refine sr ?_; refine tv (o_bS (l := [_, _]) pv_nil Tryz.underlying253 z253 (pl253 Tryz.underlying253) rfl) ?_; refine tl_u rfl (o_stUN rfl (by repeat (first | with_reducible exact upd_here | with_reducible exact upd_pt | apply upd_left)) sz253 rfl rfl rfl (by first | decide | simp | omega) rfl) ?_; refine tla ?_; refine tla ?_; refine nq ?_; refine tc_ret ?_; refine q_then_r ?_
    have e0 : (readS (s.ls.length * 64) at_ sz room p) = none := by exact read_short hsh
    rw [e0]
    exact ⟨.tuple #[.agg #[.int .i64 0, .slice none 0 0], .int .i64 0, .bool false], R * Dev d s * Sl 1 (.slice none 0 0) 0 [], resA3 rfl (rv_cell a253 sz253 rfl (by repeat (first | with_reducible exact has_here | with_reducible exact has_pt | apply has_left)) (by show 2 ≤ 2; decide) rfl) (rv_tmp rfl) (rv_tmp rfl), fun _ _ h => sl_nil (Dr.sat (by repeat (first | with_reducible exact dr_refl | apply dr_keep | apply dr_drop)) _ _ h), none, 0, rfl, Nat.le_refl _, rfl⟩
  · have hsh : ¬ room.length < p + 24 := by first | omega | (simp at h; omega)
    refine tc_skip ?_; refine q_then_n ?_; refine sr ?_; refine tlm ?_; refine tlm ?_; refine tl_c rfl (o_call bd215 rfl (field_c (q := p) (w := 0) (xs := room))) ?_; rintro _ _ ⟨rfl, rfl⟩; refine tl_env (d := 23) (v := .int .u64 (w : Nat)) (by show Value.int .u64 (((nm ((room.drop p).take 8)) : Nat) : Int) = _; rw [hwq]) ?_; refine tlm ?_; refine tlm ?_; refine tl_c rfl (o_call bd215 rfl (field_c (q := p + 8) (w := 1) (xs := room))) ?_; rintro _ _ ⟨rfl, rfl⟩; refine tl_env (d := 26) (v := .int .u64 (m : Nat)) (by show Value.int .u64 (((nm ((room.drop (p + 8)).take 8)) : Nat) : Int) = _; rw [hmq]) ?_; refine tla ?_; refine tla ?_; refine nq ?_; refine tc_seq ?_; refine tc_seq ?_; refine tc_cut (fun ρ BB => ∃ (bb : Bool), (bb = decide (4194304 < w ∨ 4194304 < m)) ∧ ρ 32 = .bool bb ∧ ρ 0 = .pointer (some ⟨bl, 0, none⟩) ∧ ρ 1 = .slice a rm c ∧ ρ 2 = .int .i64 (p : Nat) ∧ ρ 6 = .pointer (some ⟨b6, 0, none⟩) ∧ ρ 9 = .int .u64 (w : Nat) ∧ ρ 10 = .int .u64 (m : Nat) ∧ BB = R * Dev d s * pt b6 (cl [.int .i64 0, .slice none 0 0] 253)) ?_ ?_
    · skip
      refine tc_reg ?_; refine tlm ?_; refine tv (o_gtr rfl rfl) ?_; refine tlm ?_; refine tl_bool (d := 29) rfl (fun h => ?_) (fun h => ?_)
      · have g29 : (4194304 < w) := by first | exact of_decide_eq_true h | (have h2 := h; simp at h2; omega) | simpa using h
        refine tk ?_; refine tk ?_; refine tv (o_pick_t rfl (by conv => lhs; whnf)) ?_; refine tl_nil ?_; exact ⟨_, by first | exact (decide_eq_true (by omega)).symm | exact (decide_eq_false (by omega)).symm | (rw [decide_eq_decide]; omega), rfl, rfl, rfl, rfl, rfl, rfl, rfl, rfl⟩
      · have g29 : ¬ (4194304 < w) := by first | exact of_decide_eq_false h | (have h2 := h; simp at h2; omega) | simpa using h
        refine tlm ?_; refine tv (o_gtr rfl rfl) ?_; refine tv (o_pick_f rfl (by conv => lhs; whnf)) ?_; refine tl_nil ?_; exact ⟨_, by first | exact (decide_eq_true (by omega)).symm | exact (decide_eq_false (by omega)).symm | (rw [decide_eq_decide]; omega), rfl, rfl, rfl, rfl, rfl, rfl, rfl, rfl⟩
    · intro ρ B hI
      obtain ⟨bb, hbb0, hE32, hE0, hE1, hE2, hE6, hE9, hE10, rfl⟩ := hI
      refine q_then_n ?_; refine tc_env (d := 32) hE32 ?_; refine tc_env (d := 0) hE0 ?_; refine tc_env (d := 1) hE1 ?_; refine tc_env (d := 2) hE2 ?_; refine tc_env (d := 6) hE6 ?_; refine tc_env (d := 9) hE9 ?_; refine tc_env (d := 10) hE10 ?_
      clear hE32 hE0 hE1 hE2 hE6 hE9 hE10
      refine tc_cond rfl (fun h => ?_) (fun h => ?_)
      · have hbig := of_decide_eq_true (show decide (4194304 < w ∨ 4194304 < m) = true by rw [← hbb0]; exact h)
        refine sr ?_; refine tv (o_bS (l := [_, _]) pv_nil Tryz.underlying253 z253 (pl253 Tryz.underlying253) rfl) ?_; refine tl_u rfl (o_stUN rfl (by repeat (first | with_reducible exact upd_here | with_reducible exact upd_pt | apply upd_left)) sz253 rfl rfl rfl (by first | decide | simp | omega) rfl) ?_; refine tla ?_; refine tla ?_; refine nq ?_; refine tc_ret ?_; refine q_then_r ?_
        have e0 : (readS (s.ls.length * 64) at_ sz room p) = none := by exact read_may (by rw [hwq, hmq]; exact may_big (by omega) hbig)
        rw [e0]
        exact ⟨.tuple #[.agg #[.int .i64 0, .slice none 0 0], .int .i64 0, .bool false], R * Dev d s * Sl 1 (.slice none 0 0) 0 [], resA3 rfl (rv_cell a253 sz253 rfl (by repeat (first | with_reducible exact has_here | with_reducible exact has_pt | apply has_left)) (by show 2 ≤ 2; decide) rfl) (rv_tmp rfl) (rv_tmp rfl), fun _ _ h => sl_nil (Dr.sat (by repeat (first | with_reducible exact dr_refl | apply dr_keep | apply dr_drop)) _ _ h), none, 0, rfl, Nat.le_refl _, rfl⟩
      · have hbig := of_decide_eq_false (show decide (4194304 < w ∨ 4194304 < m) = false by rw [← hbb0]; exact h)
        refine tc_skip ?_; refine q_then_n ?_; refine sr ?_; refine tlm ?_; refine tv (o_conv Tryz.underlying174 Tryz.underlying3 rfl) ?_; refine tl_env (d := 35) (v := .int .i64 (w : Nat)) (by show Value.int .i64 (IntKind.i64.wrap _) = _; rw [wr_i64 (by omega)]) ?_; refine tlm ?_; refine tv (o_conv Tryz.underlying174 Tryz.underlying3 rfl) ?_; refine tl_env (d := 37) (v := .int .i64 (m : Nat)) (by show Value.int .i64 (IntKind.i64.wrap _) = _; rw [wr_i64 (by omega)]) ?_; refine tv (o_bS (l := [_, _]) (pv_cons (by conv => lhs; whnf) (pv_cons (by conv => lhs; whnf) pv_nil)) Tryz.underlying162 z162 (pl162 Tryz.underlying162) rfl) ?_; refine tl_x rfl (o_alloc z162 rfl) ?_; rintro _ _ ⟨b11, rfl, rfl⟩; refine tl_u rfl (o_stUN (l' := xcs ((w : Int), (m : Int))) rfl (by repeat (first | with_reducible exact upd_here | with_reducible exact upd_pt | apply upd_left)) sz162 rfl rfl rfl (by show 2 ≤ 2; decide) rfl) ?_; refine nq ?_; refine tc_seq ?_
        obtain ⟨nd, en, hnd⟩ : ∃ nd en, needS [(m : Int)] = (nd, en) := ⟨_, _, rfl⟩
        refine tc_reg ?_; refine tv (o_fieldAddr (o := 1) Tryz.underlying162 rfl rfl sz3 rfl) ?_; refine tv (by first | exact o_load p3 rfl (by repeat (first | with_reducible exact has_here | with_reducible exact has_pt | apply has_left)) rfl | exact o_loadC p3 rfl (by assumption)) ?_; refine tl_x rfl (o_buildSlice1 Tryz.underlying26 sz3 z3 (by conv => lhs; whnf) rfl) ?_; rintro _ _ ⟨b42, rfl, rfl⟩; refine tl_c rfl (o_call bd165 rfl (Need_c (xs := [(m : Int)]) (hr := show Rs _ _ [Value.int .i64 (m : Int)] from rs_pt rfl) (hx := by intro x hx; simp at hx; omega))) ?_; rintro _ _ ⟨rfl, rfl⟩; refine tlm ?_; refine tv (o_extract rfl rfl) ?_; refine tl_env (d := 44) (v := .int .i64 nd) (by show Value.int .i64 (needS [(m : Int)]).1 = _; rw [hnd]) ?_; refine tv (o_extract rfl rfl) ?_; refine tl_env (d := 45) (v := .int .i64 en) (by show Value.int .i64 (needS [(m : Int)]).2 = _; rw [hnd]) ?_; refine tla ?_; refine tla ?_; refine nq ?_; refine tc_seq ?_; refine tc_seq ?_; refine tc_cut (fun ρ BB => ∃ (bb : Bool), (bb = decide (mayX (s.ls.length * 64) at_ sz ((w : Int), (m : Int)) = false ∨ room.length < p + (24 + up8 m))) ∧ ρ 61 = .bool bb ∧ ρ 1 = .slice a rm c ∧ ρ 2 = .int .i64 (p : Nat) ∧ ρ 6 = .pointer (some ⟨b6, 0, none⟩) ∧ ρ 11 = .pointer (some ⟨b11, 0, none⟩) ∧ ρ 12 = .int .i64 nd ∧ Dr BB (R * Dev d s * pt b6 (cl [.int .i64 0, .slice none 0 0] 253) * pt b11 (cl (xcs ((w : Int), (m : Int))) 162))) ?_ ?_
        · skip
          refine tc_reg ?_; refine tlm ?_; refine tv (o_nei rfl rfl) ?_; refine tlm ?_; refine tl_bool (d := 48) rfl (fun h => ?_) (fun h => ?_)
          · have hen : en ≠ 0 := by first | exact of_decide_eq_true h | simpa using h
            have hm0 : m < 1 := by rcases Nat.lt_or_ge m 1 with h9 | h9; exact h9; rw [need_one h9 (by omega)] at hnd; simp at hnd; omega
            have hmy0 := may_zero1 (n := s.ls.length * 64) (at_ := at_) (sz := sz) (w := w) hm0
            refine tk ?_; refine tk ?_; refine tk ?_; refine tk ?_; refine tv (o_pick_t rfl (by conv => lhs; whnf)) ?_; refine tlm ?_; refine tk ?_; refine tk ?_; refine tk ?_; refine tk ?_; refine tk ?_; refine tk ?_; refine tv (o_pick_t rfl (by conv => lhs; whnf)) ?_; refine tl_nil ?_; exact ⟨_, by first | exact (decide_eq_true (.inl (by assumption))).symm | (rw [decide_eq_decide]; simp only [hmy1, Bool.true_eq_false, false_or]; omega), rfl, rfl, rfl, rfl, rfl, rfl, (by repeat (first | with_reducible exact dr_refl | apply dr_keep | apply dr_drop))⟩
          · have hen : en = 0 := by first | (have h9 := of_decide_eq_false h; omega) | (simp at h; omega)
            have hm1 : 1 ≤ m := by rcases Nat.lt_or_ge m 1 with h9 | h9; have h8 : m = 0 := (by omega); subst h8; rw [need_zero] at hnd; simp at hnd; omega; exact h9
            have hnd1 : nd = ((24 + up8 m : Nat) : Int) := by rw [need_one hm1 (by omega)] at hnd; simp only [Prod.mk.injEq] at hnd; exact hnd.1.symm
            have hxw : XW ((w : Int), (m : Int)) := ⟨by show -9223372036854775808 ≤ (w : Int) ∧ (w : Int) ≤ 9223372036854775807; omega, by show -9223372036854775808 ≤ (m : Int) ∧ (m : Int) ≤ 9223372036854775807; omega⟩
            refine tlm ?_; refine tv (o_loadN (vs := xcs ((w : Int), (m : Int))) a162 sz162 rfl (by repeat (first | with_reducible exact has_here | with_reducible exact has_pt | apply has_left)) (by show 2 ≤ 2; decide) rfl) ?_; refine tl_c rfl (o_call bd164 rfl (may11_c (s := s) (x := ((w : Int), (m : Int))) (hl := by repeat (first | assumption | apply has_left)))) ?_; rintro _ _ ⟨rfl, rfl⟩; refine tv (o_not rfl) ?_; refine tv (o_pick_f rfl (by conv => lhs; whnf)) ?_; refine tlm ?_; refine tl_bool (d := 54) rfl (fun h => ?_) (fun h => ?_)
            · have hmy : mayX (s.ls.length * 64) at_ sz ((w : Int), (m : Int)) = false := by first | assumption | simpa using h
              refine tk ?_; refine tk ?_; refine tk ?_; refine tk ?_; refine tk ?_; refine tk ?_; refine tv (o_pick_t rfl (by conv => lhs; whnf)) ?_; refine tl_nil ?_; exact ⟨_, by first | exact (decide_eq_true (.inl (by assumption))).symm | (rw [decide_eq_decide]; simp only [hmy1, Bool.true_eq_false, false_or]; omega), rfl, rfl, rfl, rfl, rfl, rfl, (by repeat (first | with_reducible exact dr_refl | apply dr_keep | apply dr_drop))⟩
            · have hmy1 : mayX (s.ls.length * 64) at_ sz ((w : Int), (m : Int)) = true := by simpa using h
              refine tlm ?_; refine tlm ?_; refine tv (o_len Tryz.underlying57 rfl) ?_; refine tlm ?_; refine tv (o_subI rfl rfl (by omega)) ?_; refine tv (o_gtr rfl rfl) ?_; refine tv (o_pick_f rfl (by conv => lhs; whnf)) ?_; refine tl_nil ?_; exact ⟨_, by first | exact (decide_eq_true (.inl (by assumption))).symm | (rw [decide_eq_decide]; simp only [hmy1, Bool.true_eq_false, false_or]; omega), rfl, rfl, rfl, rfl, rfl, rfl, (by repeat (first | with_reducible exact dr_refl | apply dr_keep | apply dr_drop))⟩
        · intro ρ B hI
          obtain ⟨bb, hbc0, hE61, hE1, hE2, hE6, hE11, hE12, hBA⟩ := hI
          refine q_then_n ?_; refine tc_pre hBA.sat ?_
          clear hBA
          refine tc_env (d := 61) hE61 ?_; refine tc_env (d := 1) hE1 ?_; refine tc_env (d := 2) hE2 ?_; refine tc_env (d := 6) hE6 ?_; refine tc_env (d := 11) hE11 ?_; refine tc_env (d := 12) hE12 ?_
          clear hE61 hE1 hE2 hE6 hE11 hE12
          refine tc_cond rfl (fun h => ?_) (fun h => ?_)
          · have hor := of_decide_eq_true (show decide (mayX (s.ls.length * 64) at_ sz ((w : Int), (m : Int)) = false ∨ room.length < p + (24 + up8 m)) = true by rw [← hbc0]; exact h)
            refine sr ?_; refine tv (o_bS (l := [_, _]) pv_nil Tryz.underlying253 z253 (pl253 Tryz.underlying253) rfl) ?_; refine tl_u rfl (o_stUN rfl (by repeat (first | with_reducible exact upd_here | with_reducible exact upd_pt | apply upd_left)) sz253 rfl rfl rfl (by first | decide | simp | omega) rfl) ?_; refine tla ?_; refine tla ?_; refine nq ?_; refine tc_ret ?_; refine q_then_r ?_
            have e0 : (readS (s.ls.length * 64) at_ sz room p) = none := by rcases hor with h9 | h9; exact read_may (by rw [hwq, hmq]; exact h9); exact read_need (by rw [hmq]; exact h9)
            rw [e0]
            exact ⟨.tuple #[.agg #[.int .i64 0, .slice none 0 0], .int .i64 0, .bool false], R * Dev d s * Sl 1 (.slice none 0 0) 0 [], resA3 rfl (rv_cell a253 sz253 rfl (by repeat (first | with_reducible exact has_here | with_reducible exact has_pt | apply has_left)) (by show 2 ≤ 2; decide) rfl) (rv_tmp rfl) (rv_tmp rfl), fun _ _ h => sl_nil (Dr.sat (by repeat (first | with_reducible exact dr_refl | apply dr_keep | apply dr_drop)) _ _ h), none, 0, rfl, Nat.le_refl _, rfl⟩
          · have hor := of_decide_eq_false (show decide (mayX (s.ls.length * 64) at_ sz ((w : Int), (m : Int)) = false ∨ room.length < p + (24 + up8 m)) = false by rw [← hbc0]; exact h)
            have hmy : mayX (s.ls.length * 64) at_ sz ((w : Int), (m : Int)) = true := by rcases hb9 : mayX (s.ls.length * 64) at_ sz ((w : Int), (m : Int)) with _ | _; exact absurd (.inl hb9) hor; rfl
            have hnr : ¬ room.length < p + (24 + up8 m) := fun h9 => hor (.inr h9)
            have hm1 : 1 ≤ m := by rcases Nat.lt_or_ge m 1 with h9 | h9; rw [may_zero1 h9] at hmy; exact absurd hmy (by decide); exact h9
            have hup := up8_le m
            rw [need_one hm1 (by omega)] at hnd
            obtain ⟨rfl, rfl⟩ : ((24 + up8 m : Nat) : Int) = nd ∧ (0 : Int) = en := by simpa using hnd
            obtain ⟨old, hold⟩ : ∃ old, ((room.drop (p + 24)).take m) = old := ⟨_, rfl⟩
            have holl : old.length = m := by rw [← hold, List.length_take, List.length_drop]; omega
            have hob : ∀ x ∈ old, x < 256 := fun x hx => hb x (List.mem_of_mem_drop (List.mem_of_mem_take (hold.symm ▸ hx)))
            refine tc_skip ?_; refine q_then_n ?_; refine sr ?_; refine tlm ?_; refine tlm ?_; refine tv (by first | exact o_addI rfl rfl (by omega) | exact o_add rfl rfl) ?_; refine tl_env (d := 65) (v := .int .i64 ((p + 24 : Nat) : Int)) (by first | rfl | (show Value.int .i64 _ = _; congr 1; omega)) ?_; refine tlm ?_; refine tv (by first | exact o_addI rfl rfl (by omega) | exact o_add rfl rfl) ?_; refine tl_env (d := 67) (v := .int .i64 ((p + 24 : Nat) : Int)) (by first | rfl | (show Value.int .i64 _ = _; congr 1; omega)) ?_; refine tv (o_fieldAddr (o := 1) Tryz.underlying162 rfl rfl sz3 rfl) ?_; refine tv (by first | exact o_load p3 rfl (by repeat (first | with_reducible exact has_here | with_reducible exact has_pt | apply has_left)) rfl | exact o_loadC p3 rfl (by assumption)) ?_; refine tv (by first | exact o_addI rfl rfl (by omega) | exact o_add rfl rfl) ?_; refine tl_env (d := 70) (v := .int .i64 ((p + 24 + m : Nat) : Int)) (by first | rfl | (show Value.int .i64 _ = _; congr 1; omega)) ?_; refine tv (o_slice (l := p + 24) (h := p + 24 + m) Tryz.underlying57 sz5 rfl (bnd_nat rfl) (bnd_nat rfl) (by omega) (by omega)) ?_; refine tl_env (d := 71) (v := .slice (cutAddr a c (p + 24) 1) m (c - (p + 24))) (by show Value.slice (cutAddr a c (p + 24) 1) (p + 24 + m - (p + 24)) (c - (p + 24)) = _; rw [show p + 24 + m - (p + 24) = m by omega]) ?_
            refine tl_c rfl (o_call bd216 rfl (CloneB_c (l := old) (n := m) (hr := by rw [← hold]; exact (rs_mid (l := p + 24) (m := m) hr (by omega)).left.left.left))) ?_; rintro _ _ ⟨a72, c72, rfl, hc72, rfl⟩; refine tla ?_; refine nq ?_; refine tc_seq ?_; refine tc_seq ?_; refine tc_regh (S := R * Dev d s * pt b6 (cl [.int .i64 0, .slice none 0 0] 253) * pt b11 (cl (xcs ((w : Int), (m : Int))) 162) * Sl 1 (.slice a72 m c72) m (bys old)) mo (by repeat (first | with_reducible exact dr_refl | apply dr_keep | apply dr_drop)) ?_
            show TH _ _ _ _ _ 12 #[ff,ff,ff,ff,ff,ff,ff,ff,ff,ff,ff,ff] _ _
            refine th_take (i := 0) (listed' := #[tt,ff,ff,ff,ff,ff,ff,ff,ff,ff,ff,ff]) rfl (by kernel_rfl) (by kernel_rfl) (by kernel_rfl) rfl rfl (o_fieldAddr (o := 0) Tryz.underlying162 rfl rfl sz3 rfl) ?_; refine th_take (i := 1) (listed' := #[tt,tt,ff,ff,ff,ff,ff,ff,ff,ff,ff,ff]) rfl (by kernel_rfl) (by kernel_rfl) (by kernel_rfl) rfl rfl (by first | exact o_load p3 rfl (by repeat (first | with_reducible exact has_here | with_reducible exact has_pt | apply has_left)) rfl | exact o_loadC p3 rfl (by assumption)) ?_; refine th_take (i := 2) (listed' := #[tt,tt,tt,ff,ff,ff,ff,ff,ff,ff,ff,ff]) rfl (by kernel_rfl) (by kernel_rfl) (by kernel_rfl) rfl rfl (o_move (by conv => lhs; whnf)) ?_; refine th_take (i := 4) (listed' := #[tt,tt,tt,ff,tt,ff,ff,ff,ff,ff,ff,ff]) rfl (by kernel_rfl) (by kernel_rfl) (by kernel_rfl) rfl rfl (o_move (by conv => lhs; whnf)) ?_; refine th_take (i := 5) (listed' := #[tt,tt,tt,ff,tt,tt,ff,ff,ff,ff,ff,ff]) rfl (by kernel_rfl) (by kernel_rfl) (by kernel_rfl) rfl rfl (o_move (by conv => lhs; whnf)) ?_; refine th_take (i := 6) (listed' := #[tt,tt,tt,ff,tt,tt,tt,ff,ff,ff,ff,ff]) rfl (by kernel_rfl) (by kernel_rfl) (by kernel_rfl) rfl rfl (o_move (by conv => lhs; whnf)) ?_; refine th_take (i := 7) (listed' := #[tt,tt,tt,ff,tt,tt,tt,tt,ff,ff,ff,ff]) rfl (by kernel_rfl) (by kernel_rfl) (by kernel_rfl) rfl rfl (o_move (by conv => lhs; whnf)) ?_; refine th_take (i := 8) (listed' := #[tt,tt,tt,ff,tt,tt,tt,tt,tt,ff,ff,ff]) rfl (by kernel_rfl) (by kernel_rfl) (by kernel_rfl) rfl rfl (by first | exact o_addI rfl rfl (by omega) | exact o_add rfl rfl) ?_
            refine th_env (d := 81) (v := .int .i64 ((p + (24 + up8 m) : Nat) : Int)) (by first | rfl | (show Value.int .i64 _ = _; congr 1; omega)) ?_; refine th_take (i := 9) (listed' := #[tt,tt,tt,ff,tt,tt,tt,tt,tt,tt,ff,ff]) rfl (by kernel_rfl) (by kernel_rfl) (by kernel_rfl) rfl rfl (o_slice (l := p) (h := p + (24 + up8 m)) Tryz.underlying57 sz5 rfl (bnd_nat rfl) (bnd_nat rfl) (by omega) (by omega)) ?_; refine th_env (d := 82) (v := .slice (cutAddr a c p 1) (24 + up8 m) (c - p)) (by show Value.slice (cutAddr a c p 1) (p + (24 + up8 m) - p) (c - p) = _; rw [show p + (24 + up8 m) - p = 24 + up8 m by omega]) ?_; refine th_one (i := 3) (by kernel_rfl) ?_; refine oh_c (i := 3) (listed' := #[tt,tt,tt,tt,tt,tt,tt,tt,tt,tt,ff,ff]) rfl rfl rfl (o_call bd166 rfl (record_c (p := w) (m := m) (xs := old) (hm := holl))) ?_; rintro _ _ ⟨a76, c76, rfl, hc76, rfl⟩; refine ⟨by repeat (first | with_reducible exact dr_refl | apply dr_keep | apply dr_drop), ?_⟩; refine th_one (i := 10) (by kernel_rfl) ?_; refine oh_c (i := 10) (listed' := #[tt,tt,tt,tt,tt,tt,tt,tt,tt,tt,tt,ff]) rfl rfl rfl (o_call bd217 rfl (EqualB_c (xs := recS w old) (ys := (room.drop p).take (24 + up8 m)) (hx := by rw [recS_len, holl]) (hy := by rw [List.length_take, List.length_drop]; omega) (h2 := (rs_mid (l := p) (m := 24 + up8 m) hr (by omega)).left.left.left.left.left))) ?_; rintro _ _ ⟨rfl, rfl⟩; refine ⟨by repeat (first | with_reducible exact dr_refl | apply dr_keep | apply dr_drop), ?_⟩
            refine th_take (i := 11) (listed' := #[tt,tt,tt,tt,tt,tt,tt,tt,tt,tt,tt,tt]) rfl (by kernel_rfl) (by kernel_rfl) (by kernel_rfl) rfl rfl (o_not rfl) ?_; refine th_done (by kernel_rfl) ?_; refine q_then_n ?_; refine tc_cond rfl (fun h => ?_) (fun h => ?_)
            · have hne : recS w old ≠ (room.drop p).take (24 + up8 m) := fun e => by rw [e] at h; simp at h
              refine sr ?_; refine tv (o_bS (l := [_, _]) pv_nil Tryz.underlying253 z253 (pl253 Tryz.underlying253) rfl) ?_; refine tl_u rfl (o_stUN rfl (by repeat (first | with_reducible exact upd_here | with_reducible exact upd_pt | apply upd_left)) sz253 rfl rfl rfl (by first | decide | simp | omega) rfl) ?_; refine tla ?_; refine tla ?_; refine nq ?_; refine tc_ret ?_; refine q_then_r ?_
              have e0 : (readS (s.ls.length * 64) at_ sz room p) = none := by exact read_bad hwq hmq (by rw [hold]; exact hne)
              rw [e0]
              exact ⟨.tuple #[.agg #[.int .i64 0, .slice none 0 0], .int .i64 0, .bool false], R * Dev d s * Sl 1 (.slice none 0 0) 0 [], resA3 rfl (rv_cell a253 sz253 rfl (by repeat (first | with_reducible exact has_here | with_reducible exact has_pt | apply has_left)) (by show 2 ≤ 2; decide) rfl) (rv_tmp rfl) (rv_tmp rfl), fun _ _ h => sl_nil (Dr.sat (by repeat (first | with_reducible exact dr_refl | apply dr_keep | apply dr_drop)) _ _ h), none, 0, rfl, Nat.le_refl _, rfl⟩
            · have heq : recS w old = (room.drop p).take (24 + up8 m) := by simpa using h
              refine tc_skip ?_; refine q_then_n ?_; refine sr ?_; refine tv (o_fieldAddr (o := 0) Tryz.underlying162 rfl rfl sz3 rfl) ?_; refine tv (by first | exact o_load p3 rfl (by repeat (first | with_reducible exact has_here | with_reducible exact has_pt | apply has_left)) rfl | exact o_loadC p3 rfl (by assumption)) ?_; refine tlm ?_; refine tv (o_bS (l := [_, _]) (pv_cons (by conv => lhs; whnf) (pv_cons (by conv => lhs; whnf) pv_nil)) Tryz.underlying253 z253 (pl253 Tryz.underlying253) rfl) ?_; refine tlm ?_; refine tl_u rfl (o_stUN (l' := [.int .i64 (w : Int), .slice a72 m c72]) rfl (by repeat (first | with_reducible exact upd_here | with_reducible exact upd_pt | apply upd_left)) sz253 rfl rfl rfl (by show 2 ≤ 2; decide) rfl) ?_; refine tla ?_; refine tla ?_; refine nq ?_; refine tc_ret ?_
              have e0 : (readS (s.ls.length * 64) at_ sz room p) = some ((w, old), 24 + up8 m) := by rw [← hold]; exact read_good hwq hmq hsh hmy hnr (by rw [hold]; exact heq)
              rw [e0]
              exact ⟨.tuple #[.agg #[.int .i64 (w : Int), .slice a72 m c72], .int .i64 ((24 + up8 m : Nat) : Int), .bool true], R * Dev d s * Sl 1 (.slice a72 m c72) m (bys old), resA3 rfl (rv_cell a253 sz253 rfl (by repeat (first | with_reducible exact has_here | with_reducible exact has_pt | apply has_left)) (by show 2 ≤ 2; decide) rfl) (rv_tmp rfl) (rv_tmp rfl), Dr.sat (by repeat (first | with_reducible exact dr_refl | apply dr_keep | apply dr_drop)), a72, c72, by show _ = Value.tuple #[.agg #[.int .i64 (w : Int), .slice a72 old.length c72], _, _]; rw [holl]; rfl, by show old.length ≤ c72; rw [holl]; exact hc72, by show _ = R * Dev d s * Sl 1 (.slice a72 old.length c72) old.length (bys old); rw [holl]⟩
end Go.Vl

namespace Go.Vl
open Go Go.Proofs
def kcl : List (Nat × List Nat) → List Value → List Value
  | x :: l, v :: vs => .int .i64 (x.1 : Nat) :: v :: kcl l vs
  | _, _ => []
theorem kcl_snoc : ∀ {l : List (Nat × List Nat)} {vs : List Value} {x : Nat × List Nat} {v : Value}, vs.length = l.length → kcl (l ++ [x]) (vs ++ [v]) = kcl l vs ++ [.int .i64 (x.1 : Nat), v]
  | [], [], _, _, _ => rfl
  | y :: l, u :: vs, x, v, h => by
    show _ :: u :: kcl (l ++ [x]) (vs ++ [v]) = _
    rw [kcl_snoc (by simpa using h)]; rfl
theorem wr_u64 {j : Nat} (h : j < 18446744073709551616) : IntKind.u64.wrap (j : Int) = (j : Int) := by simp [IntKind.wrap, IntKind.bits, IntKind.signed]; omega
theorem rd_some {o : Option ((Nat × List Nat) × Nat)} (h : o.isSome = true) : o = some ((rdW o, rdO o), rkT o) := by
  cases o with
  | none => cases h
  | some x => rfl
/-- What is read behind what was read. -/
def cat (D : List (Nat × List Nat)) (x : List (Nat × List Nat) × Int) : List (Nat × List Nat) × Int := if x.2 ≠ 0 then ([], 110) else (D ++ x.1, 0)
theorem recs_none {n at_ sz k p : Nat} {room : List Nat} {D : List (Nat × List Nat)} (h : readS n at_ sz room p = none) (hk : 0 < k) : cat D (recsF n at_ sz room k p) = ([], 110) := by
  obtain ⟨k, rfl⟩ : ∃ j, k = j + 1 := ⟨k - 1, by omega⟩
  unfold recsF; rw [h]; rfl
theorem recs_some {n at_ sz k p : Nat} {room : List Nat} {D : List (Nat × List Nat)} {x : Nat × List Nat} {t : Nat} (h : readS n at_ sz room p = some (x, t)) (hk : 0 < k) : cat D (recsF n at_ sz room k p) = cat (D ++ [x]) (recsF n at_ sz room (k - 1) (p + t)) := by
  obtain ⟨k, rfl⟩ : ∃ j, k = j + 1 := ⟨k - 1, by omega⟩
  rw [show k + 1 - 1 = k by omega]
  have e : recsF n at_ sz room (k + 1) p = if (recsF n at_ sz room k (p + t)).2 ≠ 0 then ([], 110) else (x :: (recsF n at_ sz room k (p + t)).1, 0) := by
    rw [show recsF n at_ sz room (k + 1) p = match readS n at_ sz room p with
      | none => ([], 110)
      | some (x, t) => if (recsF n at_ sz room k (p + t)).2 ≠ 0 then ([], 110) else (x :: (recsF n at_ sz room k (p + t)).1, 0) from rfl, h]
  rw [e]
  unfold cat
  by_cases h2 : (recsF n at_ sz room k (p + t)).2 ≠ 0
  · rw [if_pos h2, if_pos h2, if_pos (by decide)]
  · rw [if_neg h2, if_neg h2, if_neg (by simp), List.append_assoc]; rfl
theorem recs_err {n at_ sz : Nat} {room : List Nat} : ∀ {k p : Nat}, (recsF n at_ sz room k p).2 ≠ 0 → recsF n at_ sz room k p = ([], 110)
  | 0, p, h => absurd rfl h
  | k + 1, p, h => by
    have e : recsF n at_ sz room (k + 1) p = match readS n at_ sz room p with
      | none => ([], 110)
      | some (x, t) => if (recsF n at_ sz room k (p + t)).2 ≠ 0 then ([], 110) else (x :: (recsF n at_ sz room k (p + t)).1, 0) := rfl
    rw [e] at h ⊢
    cases hr : readS n at_ sz room p with
    | none => rfl
    | some y =>
      rw [hr] at h
      simp only at h ⊢
      by_cases h2 : (recsF n at_ sz room k (p + y.2)).2 ≠ 0
      · rw [if_pos h2]
      · rw [if_neg h2] at h; exact absurd rfl h
theorem cat_nil {n at_ sz k p : Nat} {room : List Nat} : cat [] (recsF n at_ sz room k p) = recsF n at_ sz room k p := by
  unfold cat
  by_cases h : (recsF n at_ sz room k p).2 ≠ 0
  · rw [if_pos h, recs_err h]
  · rw [if_neg h]; exact Prod.ext rfl (by simp only; omega)
theorem read_room {n at_ sz p : Nat} {room : List Nat} {x : Nat × List Nat} {t : Nat} (h : readS n at_ sz room p = some (x, t)) : p + t ≤ room.length ∧ 24 ≤ t := by
  unfold readS at h
  split at h; cases h
  split at h; cases h
  split at h; cases h
  rename_i h3
  split at h; cases h
  simp only [Option.some.injEq, Prod.mk.injEq] at h
  omega
attribute [local irreducible] crk crL crc Sl pt ro Dev imgS recS readS recsF rdW rdO rkT Parts
set_option maxRecDepth 20000 in
set_option maxHeartbeats 2000000 in
theorem Records_c {A R : SP} {C : SP → SP} {d : Nat} {s : DevS} (hc : Ct A (Dev d s) R C := by repeat (first | with_reducible exact ct_here | apply ct_left)) {bl at_ sz : Nat} (hl : Has R bl (cl (lcs11 d at_ sz) 99) := by (repeat (first | assumption | with_reducible exact has_here | with_reducible exact has_pt | apply has_left))) (hlw : LogW (s.ls.length * 64) at_ sz := by assumption) :
    Fn Tryz.prog 108 #[.pointer (some ⟨bl, 0, none⟩)] (A) (fun r B => ∃ a2 c2 vs, r = .tuple #[.slice a2 (recordsS at_ sz s).1.length c2, .int .i64 (recordsS at_ sz s).2] ∧ (recordsS at_ sz s).1.length ≤ c2 ∧ vs.length = (recordsS at_ sz s).1.length ∧ B = C (Dev d s) * Parts vs ((recordsS at_ sz s).1.map (·.2)) * Sl 2 (.slice a2 (recordsS at_ sz s).1.length c2) (recordsS at_ sz s).1.length (kcl (recordsS at_ sz s).1 vs)) := by
  refine fn_enterW (args := [.pointer (some ⟨bl, 0, none⟩)]) Tryz.func108 rfl Tryz.ntmps108 (by simp) ?_; refine tc_have (fun _ _ h => ct_wf2 hc h) fun hw => ?_
  have htop := hw.top
  have hpos := hw.pos
  obtain ⟨rfl, hC⟩ := hc
  have hAC : ∀ g w, sat g w (R * Dev d s) → sat g w (C (Dev d s)) := fun g w h => by rw [hC]; exact h
  have hlw9 := hlw
  obtain ⟨w1, w2, w3, w4, w5⟩ := hlw9
  refine sr ?_; refine tla ?_; refine tla ?_; refine nq ?_; refine tc_seq ?_; refine sr ?_; refine tlm ?_; refine tl_c rfl (o_call bd162 rfl (ready11_c (s := s) (hl := hl))) ?_; rintro _ _ ⟨rfl, rfl⟩; refine tla ?_; refine nq ?_; refine sr ?_; refine tlm ?_; refine tv (o_nei rfl rfl) ?_; refine nq ?_; refine tc_cond rfl (fun h => ?_) (fun h => ?_)
  · try simp only [lv1, lv2, lv3, lv4, lv5, lv6, Bool.not_true, Bool.not_false] at h
    refine sr ?_; refine tlm ?_; refine tla ?_; refine tla ?_; refine nq ?_; refine tc_ret ?_; refine q_then_r ?_
    have ho := stE_off h
    have es : stE s = 5 := by unfold stE; rw [if_pos ho]
    rw [es]
    have e0 : recordsS at_ sz s = ([], 5) := by unfold recordsS; rw [if_pos ho]
    rw [e0]
    exact ⟨.tuple #[.slice none 0 0, .int .i64 (5)], C (Dev d s) * Parts [] [] * Sl 2 (.slice none 0 0) 0 [], res2 rfl rfl rfl, fun _ _ h => sl_nil (show sat _ _ (C (Dev d s) * Parts [] []) by rw [hC, show Parts [] [] = emp by unfold Parts; rfl, star_emp]; exact Dr.sat (A' := R * Dev d s) (by repeat (first | with_reducible exact dr_refl | apply dr_keep | apply dr_drop)) _ _ h), none, 0, [], rfl, Nat.le_refl _, rfl, rfl⟩
  · have ho : s.off = false := stE_on (by simpa using h)
    have hw2 := word_in (p := at_) ho (by omega) (by omega)
    obtain ⟨v, hv⟩ : ∃ v, (wordP (at_ : Nat) s).1 = v := ⟨_, rfl⟩
    have hvl : v < 18446744073709551616 := by rw [← hv, hw2]; exact nm8_lt fun x hx => img_lt x (List.mem_of_mem_drop hx)
    obtain ⟨room, hroom⟩ : ∃ room, roomS at_ sz s = room := ⟨_, rfl⟩
    have hil := imgS_len hw
    have hrl : room.length = sz - 64 := by rw [← hroom]; unfold roomS; rw [List.length_take, List.length_drop, hil]; omega
    have hrb : ∀ x ∈ room, x < 256 := fun x hx => by rw [← hroom] at hx; exact img_sub x hx
    have hrec : recordsS at_ sz s = recsF (s.ls.length * 64) at_ sz room v 0 := by unfold recordsS; rw [if_neg (by rw [ho]; decide), hv, hroom]
    refine tc_skip ?_; refine q_then_n ?_; refine tc_seq ?_; refine tc_regq mo (by kernel_rfl) ?_; refine ql_v rfl (o_move (by conv => lhs; whnf)) ?_; refine ql_v rfl (o_nilCheck rfl) ?_; refine ql_v rfl (o_fieldAddr (o := 0) Tryz.underlying99 rfl rfl sz47 rfl) ?_; refine ql_v rfl (o_load p47 rfl (by repeat (first | assumption | apply has_left)) rfl) ?_; refine ql_v rfl (o_move (by conv => lhs; whnf)) ?_; refine ql_v rfl (o_nilCheck rfl) ?_; refine ql_v rfl (o_fieldAddr (o := 1) Tryz.underlying99 rfl rfl sz3 rfl) ?_; refine ql_v rfl (o_load p3 rfl (by repeat (first | assumption | apply has_left)) rfl) ?_; refine ql_c rfl (fun w => exec_call bd163 rfl) (Word_c (s := s) (p := (at_ : Nat))) ?_; refine ql_v rfl (o_move (by conv => lhs; whnf)) ?_; refine ql_v rfl (o_extract rfl rfl) ?_; refine ql_env (d := 28) (v := .int .u64 (v : Nat)) (by show Value.int .u64 ((wordP (at_ : Nat) s).1 : Nat) = _; rw [hv]) ?_; refine ql_v rfl (o_extract rfl rfl) ?_; refine ql_env (d := 29) (v := .int .i64 0) (by show Value.int .i64 (wordP (at_ : Nat) s).2 = _; rw [hw2]) ?_; refine ql_v rfl (o_assign (by conv => lhs; whnf)) ?_; refine ql_v rfl (o_assign (by conv => lhs; whnf)) ?_; refine ql_nil ?_; refine q_then_n ?_; refine tc_seq ?_; refine sr ?_; refine tlm ?_; refine tv (o_nei rfl rfl) ?_; refine nq ?_; refine tc_cond rfl (fun h => ?_) (fun h => ?_)
    · exfalso; simp at h
    · try simp only [lv1, lv2, lv3, lv4, lv5, lv6, Bool.not_true, Bool.not_false] at h
      refine tc_skip ?_; refine q_then_n ?_; refine tc_seq ?_; refine sr ?_; refine tlm ?_; refine tv (o_eqi rfl rfl) ?_; refine nq ?_; refine tc_cond rfl (fun h => ?_) (fun h => ?_)
      · have hv0 : v = 0 := by first | (have h9 := of_decide_eq_true h; omega) | (simp at h; omega)
        refine sr ?_; refine tla ?_; refine tla ?_; refine nq ?_; refine tc_ret ?_; refine q_then_r ?_
        have e0 : recordsS at_ sz s = ([], 0) := by rw [hrec, hv0]; unfold recsF; rfl
        rw [e0]
        exact ⟨.tuple #[.slice none 0 0, .int .i64 (0)], C (Dev d s) * Parts [] [] * Sl 2 (.slice none 0 0) 0 [], res2 rfl rfl rfl, fun _ _ h => sl_nil (show sat _ _ (C (Dev d s) * Parts [] []) by rw [hC, show Parts [] [] = emp by unfold Parts; rfl, star_emp]; exact Dr.sat (A' := R * Dev d s) (by repeat (first | with_reducible exact dr_refl | apply dr_keep | apply dr_drop)) _ _ h), none, 0, [], rfl, Nat.le_refl _, rfl, rfl⟩
      · have hv0 : v ≠ 0 := by first | (have h9 := of_decide_eq_false h; omega) | (simp at h; omega)
        refine tc_skip ?_; refine q_then_n ?_; refine tc_seq ?_; refine tc_regh (S := R) mo (by repeat (first | with_reducible exact dr_refl | apply dr_keep | apply dr_drop)) ?_
        show TH _ _ _ _ _ 20 #[ff,ff,ff,ff,ff,ff,ff,ff,ff,ff,ff,ff,ff,ff,ff,ff,ff,ff,ff,ff] _ _
        refine th_take (i := 0) (listed' := #[tt,ff,ff,ff,ff,ff,ff,ff,ff,ff,ff,ff,ff,ff,ff,ff,ff,ff,ff,ff]) rfl (by kernel_rfl) (by kernel_rfl) (by kernel_rfl) rfl rfl (o_move (by conv => lhs; whnf)) ?_; refine th_take (i := 1) (listed' := #[tt,tt,ff,ff,ff,ff,ff,ff,ff,ff,ff,ff,ff,ff,ff,ff,ff,ff,ff,ff]) rfl (by kernel_rfl) (by kernel_rfl) (by kernel_rfl) rfl rfl (o_nilCheck rfl) ?_; refine th_take (i := 2) (listed' := #[tt,tt,tt,ff,ff,ff,ff,ff,ff,ff,ff,ff,ff,ff,ff,ff,ff,ff,ff,ff]) rfl (by kernel_rfl) (by kernel_rfl) (by kernel_rfl) rfl rfl (o_fieldAddr (o := 0) Tryz.underlying99 rfl rfl sz47 rfl) ?_; refine th_take (i := 3) (listed' := #[tt,tt,tt,tt,ff,ff,ff,ff,ff,ff,ff,ff,ff,ff,ff,ff,ff,ff,ff,ff]) rfl (by kernel_rfl) (by kernel_rfl) (by kernel_rfl) rfl rfl (o_load p47 rfl (by repeat (first | assumption | apply has_left)) rfl) ?_; refine th_take (i := 4) (listed' := #[tt,tt,tt,tt,tt,ff,ff,ff,ff,ff,ff,ff,ff,ff,ff,ff,ff,ff,ff,ff]) rfl (by kernel_rfl) (by kernel_rfl) (by kernel_rfl) rfl rfl (o_move (by conv => lhs; whnf)) ?_; refine th_take (i := 5) (listed' := #[tt,tt,tt,tt,tt,tt,ff,ff,ff,ff,ff,ff,ff,ff,ff,ff,ff,ff,ff,ff]) rfl (by kernel_rfl) (by kernel_rfl) (by kernel_rfl) rfl rfl (o_nilCheck rfl) ?_; refine th_take (i := 6) (listed' := #[tt,tt,tt,tt,tt,tt,tt,ff,ff,ff,ff,ff,ff,ff,ff,ff,ff,ff,ff,ff]) rfl (by kernel_rfl) (by kernel_rfl) (by kernel_rfl) rfl rfl (o_fieldAddr (o := 1) Tryz.underlying99 rfl rfl sz3 rfl) ?_; refine th_take (i := 7) (listed' := #[tt,tt,tt,tt,tt,tt,tt,tt,ff,ff,ff,ff,ff,ff,ff,ff,ff,ff,ff,ff]) rfl (by kernel_rfl) (by kernel_rfl) (by kernel_rfl) rfl rfl (o_load p3 rfl (by repeat (first | assumption | apply has_left)) rfl) ?_
        refine th_take (i := 8) (listed' := #[tt,tt,tt,tt,tt,tt,tt,tt,tt,ff,ff,ff,ff,ff,ff,ff,ff,ff,ff,ff]) rfl (by kernel_rfl) (by kernel_rfl) (by kernel_rfl) rfl rfl (by first | exact o_addI rfl rfl (by omega) | exact o_add rfl rfl) ?_; refine th_env (d := 44) (v := .int .i64 ((at_ + 64 : Nat) : Int)) (by first | rfl | (show Value.int .i64 _ = _; congr 1; omega)) ?_; refine th_take (i := 9) (listed' := #[tt,tt,tt,tt,tt,tt,tt,tt,tt,tt,ff,ff,ff,ff,ff,ff,ff,ff,ff,ff]) rfl (by kernel_rfl) (by kernel_rfl) (by kernel_rfl) rfl rfl (o_move (by conv => lhs; whnf)) ?_; refine th_take (i := 10) (listed' := #[tt,tt,tt,tt,tt,tt,tt,tt,tt,tt,tt,ff,ff,ff,ff,ff,ff,ff,ff,ff]) rfl (by kernel_rfl) (by kernel_rfl) (by kernel_rfl) rfl rfl (o_nilCheck rfl) ?_; refine th_take (i := 11) (listed' := #[tt,tt,tt,tt,tt,tt,tt,tt,tt,tt,tt,tt,ff,ff,ff,ff,ff,ff,ff,ff]) rfl (by kernel_rfl) (by kernel_rfl) (by kernel_rfl) rfl rfl (o_fieldAddr (o := 2) Tryz.underlying99 rfl rfl sz3 rfl) ?_; refine th_take (i := 12) (listed' := #[tt,tt,tt,tt,tt,tt,tt,tt,tt,tt,tt,tt,tt,ff,ff,ff,ff,ff,ff,ff]) rfl (by kernel_rfl) (by kernel_rfl) (by kernel_rfl) rfl rfl (o_load p3 rfl (by repeat (first | assumption | apply has_left)) rfl) ?_; refine th_take (i := 13) (listed' := #[tt,tt,tt,tt,tt,tt,tt,tt,tt,tt,tt,tt,tt,tt,ff,ff,ff,ff,ff,ff]) rfl (by kernel_rfl) (by kernel_rfl) (by kernel_rfl) rfl rfl (o_subI rfl rfl (by omega)) ?_; refine th_env (d := 49) (v := .int .i64 ((sz - 64 : Nat) : Int)) (by show Value.int .i64 ((sz : Int) - 64) = _; congr 1; omega) ?_
        refine th_one (i := 14) (by kernel_rfl) ?_; refine oh_c (i := 14) (listed' := #[tt,tt,tt,tt,tt,tt,tt,tt,tt,tt,tt,tt,tt,tt,tt,ff,ff,ff,ff,ff]) rfl rfl rfl (o_call bd110 rfl (Load_c (s := s) (p := at_ + 64) (m := sz - 64))) ?_; rintro _ _ ⟨a50, c50, rfl, hc50, rfl⟩; refine ⟨by repeat (first | with_reducible exact dr_refl | apply dr_keep | apply dr_drop), ?_⟩; refine th_take (i := 15) (listed' := #[tt,tt,tt,tt,tt,tt,tt,tt,tt,tt,tt,tt,tt,tt,tt,tt,ff,ff,ff,ff]) rfl (by kernel_rfl) (by kernel_rfl) (by kernel_rfl) rfl rfl (o_move (by conv => lhs; whnf)) ?_; refine th_take (i := 16) (listed' := #[tt,tt,tt,tt,tt,tt,tt,tt,tt,tt,tt,tt,tt,tt,tt,tt,tt,ff,ff,ff]) rfl (by kernel_rfl) (by kernel_rfl) (by kernel_rfl) rfl rfl (o_extract rfl rfl) ?_; refine th_take (i := 17) (listed' := #[tt,tt,tt,tt,tt,tt,tt,tt,tt,tt,tt,tt,tt,tt,tt,tt,tt,tt,ff,ff]) rfl (by kernel_rfl) (by kernel_rfl) (by kernel_rfl) rfl rfl (o_extract rfl rfl) ?_; refine th_take (i := 18) (listed' := #[tt,tt,tt,tt,tt,tt,tt,tt,tt,tt,tt,tt,tt,tt,tt,tt,tt,tt,tt,ff]) rfl (by kernel_rfl) (by kernel_rfl) (by kernel_rfl) rfl rfl (o_assign (by conv => lhs; whnf)) ?_; refine th_take (i := 19) (listed' := #[tt,tt,tt,tt,tt,tt,tt,tt,tt,tt,tt,tt,tt,tt,tt,tt,tt,tt,tt,tt]) rfl (by kernel_rfl) (by kernel_rfl) (by kernel_rfl) rfl rfl (o_assign (by conv => lhs; whnf)) ?_; refine th_done (by kernel_rfl) ?_; refine q_then_n ?_; refine tc_seq ?_; refine sr ?_
        refine tlm ?_; refine tv (o_nei rfl rfl) ?_; refine nq ?_; refine tc_cond rfl (fun h => ?_) (fun h => ?_)
        · exfalso; simp at h
        · try simp only [lv1, lv2, lv3, lv4, lv5, lv6, Bool.not_true, Bool.not_false] at h
          refine tc_skip ?_; refine q_then_n ?_; refine sr ?_; refine tla ?_; refine nq ?_; refine sr ?_; refine tla ?_; refine nq ?_; refine tc_seq ?_; refine tc_block ?_; refine tc_pre (A' := R * Dev d s * Sl 1 (.slice a50 (sz - 64) c50) (sz - 64) (bys room) * Parts [] [] * Sl 2 (.slice none 0 0) 0 []) (fun _ _ h => sl_nil (show sat _ _ (R * Dev d s * Sl 1 (.slice a50 (sz - 64) c50) (sz - 64) (bys room) * Parts [] []) by rw [show Parts [] [] = emp by unfold Parts; rfl, star_emp]; rw [← hroom]; exact h)) ?_; refine tc_loop (fun kk ρ BB => ∃ (j : Nat) (p : Nat) (n : Nat) (D : List (Nat × List Nat)) (vs : List Value) (a8 : Option Addr) (c8 : Nat), (cat D (recsF (s.ls.length * 64) at_ sz room j p) = recordsS at_ sz s) ∧ (p ≤ sz - 64) ∧ (D.length = n) ∧ (vs.length = n) ∧ (n ≤ c8) ∧ (j < 18446744073709551616) ∧ (24 * n ≤ p) ∧ kk = j ∧ ρ 5 = .int .u64 (j : Nat) ∧ ρ 8 = .slice a8 n c8 ∧ ρ 9 = .int .i64 (p : Nat) ∧ ρ 0 = .pointer (some ⟨bl, 0, none⟩) ∧ ρ 7 = .slice a50 (sz - 64) c50 ∧ Dr BB (R * Dev d s * Sl 1 (.slice a50 (sz - 64) c50) (sz - 64) (bys room) * Parts vs (D.map (·.2)) * Sl 2 (.slice a8 n c8) n (kcl D vs))) (m := (v)) ?_ ?_
          · exact ⟨v, 0, 0, [], [], none, 0, by rw [hrec, cat_nil], by omega, rfl, rfl, by omega, hvl, by omega, rfl, rfl, rfl, rfl, rfl, rfl, (by repeat (first | with_reducible exact dr_refl | apply dr_keep | apply dr_drop))⟩
          · intro k ρ B hI
            obtain ⟨j, p, n, D, vs, a8, c8, hp0, hp1, hp2, hp3, hp4, hp5, hp6, hkk1, hE5, hE8, hE9, hE0, hE7, hBA⟩ := hI
            refine tc_pre hBA.sat ?_
            clear hBA
            refine tc_env (d := 5) hE5 ?_; refine tc_env (d := 8) hE8 ?_; refine tc_env (d := 9) hE9 ?_; refine tc_env (d := 0) hE0 ?_; refine tc_env (d := 7) hE7 ?_
            clear hE5 hE8 hE9 hE0 hE7
            refine tc_seq ?_; refine sr ?_; refine tlm ?_; refine tv (o_gtr rfl rfl) ?_; refine nq ?_; refine tc_cond rfl (fun h => ?_) (fun h => ?_)
            · have hj : 0 < j := by first | omega | (simp at h; omega)
              refine tc_skip ?_; refine q_then_n ?_; refine tc_seq ?_; refine tc_block ?_; refine sr ?_; refine tlm ?_; refine tlm ?_; refine tlm ?_; refine tl_c rfl (o_call bd170 rfl (read_c (s := s) (p := p) (room := room))) ?_; rintro _ _ ⟨a64, c64, rfl, hc64, rfl⟩; refine tlm ?_; refine tv (o_extract rfl rfl) ?_; refine tv (o_extract rfl rfl) ?_; refine tv (o_extract rfl rfl) ?_; refine tl_x rfl (o_alloc z253 rfl) ?_; rintro _ _ ⟨b10, rfl, rfl⟩; refine tl_u rfl (o_stUN (l' := [.int .i64 ((rdW (readS (s.ls.length * 64) at_ sz room p) : Nat) : Int), (.slice a64 (rdO (readS (s.ls.length * 64) at_ sz room p)).length c64)]) rfl (by repeat (first | with_reducible exact upd_here | with_reducible exact upd_pt | apply upd_left)) sz253 rfl rfl rfl (by show 2 ≤ 2; decide) rfl) ?_; refine tla ?_; refine tla ?_; refine nq ?_; refine tc_seq ?_; refine sr ?_; refine tlm ?_; refine tv (o_not rfl) ?_; refine nq ?_; refine tc_cond rfl (fun h => ?_) (fun h => ?_)
              · have hrd : (readS (s.ls.length * 64) at_ sz room p) = none := by rcases hq9 : (readS (s.ls.length * 64) at_ sz room p) with _ | x; rfl; rw [hq9] at h; simp at h
                refine sr ?_; refine tla ?_; refine tla ?_; refine nq ?_; refine tc_ret ?_; refine q_then_r (q_block_r (q_then_r (q_then_r (q_block_r (q_then_r ?_)))))
                have e0 : recordsS at_ sz s = ([], 110) := by rw [← hp0, recs_none hrd hj]
                rw [e0]
                exact ⟨.tuple #[.slice none 0 0, .int .i64 (110)], C (Dev d s) * Parts [] [] * Sl 2 (.slice none 0 0) 0 [], res2 rfl rfl rfl, fun _ _ h => sl_nil (show sat _ _ (C (Dev d s) * Parts [] []) by rw [hC, show Parts [] [] = emp by unfold Parts; rfl, star_emp]; exact Dr.sat (A' := R * Dev d s) (by repeat (first | with_reducible exact dr_refl | apply dr_keep | apply dr_drop)) _ _ h), none, 0, [], rfl, Nat.le_refl _, rfl, rfl⟩
              · have hrd := rd_some (o := (readS (s.ls.length * 64) at_ sz room p)) (by simpa using h)
                have hrm := read_room hrd
                refine tc_skip ?_; refine q_then_n ?_; refine sr ?_; refine tlm ?_; refine tv (o_loadN (vs := [.int .i64 ((rdW (readS (s.ls.length * 64) at_ sz room p) : Nat) : Int), (.slice a64 (rdO (readS (s.ls.length * 64) at_ sz room p)).length c64)]) a253 sz253 rfl (by repeat (first | with_reducible exact has_here | with_reducible exact has_pt | apply has_left)) (by show 2 ≤ 2; decide) rfl) ?_; refine tl_x rfl (o_buildSliceK (k := 2) (l := [.int .i64 ((rdW (readS (s.ls.length * 64) at_ sz room p) : Nat) : Int), (.slice a64 (rdO (readS (s.ls.length * 64) at_ sz room p)).length c64)]) Tryz.underlying181 sz253 z253 rfl rfl (by decide)) ?_; rintro _ _ ⟨b72, rfl, rfl⟩; refine tl_x rfl (o_apB Tryz.underlying181 Tryz.underlying181 sz253 by253 z253 rfl (by decide) (by decide) rfl rfl rfl (by repeat (first | with_reducible exact ct_here | apply ct_left)) rfl rfl (by omega) (show _ = kcl (D ++ [(rdW (readS (s.ls.length * 64) at_ sz room p), rdO (readS (s.ls.length * 64) at_ sz room p))]) (vs ++ [(.slice a64 (rdO (readS (s.ls.length * 64) at_ sz room p)).length c64)]) by rw [kcl_snoc (by omega)])) ?_; rintro _ _ ⟨a73, c73, rfl, hc73, rfl⟩
                have hps : Parts (vs ++ [(.slice a64 (rdO (readS (s.ls.length * 64) at_ sz room p)).length c64)]) ((D ++ [(rdW (readS (s.ls.length * 64) at_ sz room p), rdO (readS (s.ls.length * 64) at_ sz room p))]).map (·.2)) = Parts vs (D.map (·.2)) * Sl 1 (.slice a64 (rdO (readS (s.ls.length * 64) at_ sz room p)).length c64) (rdO (readS (s.ls.length * 64) at_ sz room p)).length (bys (rdO (readS (s.ls.length * 64) at_ sz room p))) := by rw [List.map_append]; exact parts_snoc (by rw [List.length_map]; omega)
                refine tl_eq (show _ = R * Dev d s * Sl 1 (.slice a50 (sz - 64) c50) (sz - 64) (bys room) * Parts (vs ++ [(.slice a64 (rdO (readS (s.ls.length * 64) at_ sz room p)).length c64)]) ((D ++ [(rdW (readS (s.ls.length * 64) at_ sz room p), rdO (readS (s.ls.length * 64) at_ sz room p))]).map (·.2)) * Sl 2 (.slice a73 (n + 1) c73) (n + 1) (kcl (D ++ [(rdW (readS (s.ls.length * 64) at_ sz room p), rdO (readS (s.ls.length * 64) at_ sz room p))]) (vs ++ [(.slice a64 (rdO (readS (s.ls.length * 64) at_ sz room p)).length c64)])) * pt b10 (cl ([.int .i64 ((rdW (readS (s.ls.length * 64) at_ sz room p) : Nat) : Int), (.slice a64 (rdO (readS (s.ls.length * 64) at_ sz room p)).length c64)] : List Value) 253) by rw [hps]; ac_rfl) ?_; refine tla ?_; refine nq ?_; refine tc_reg ?_; refine tlm ?_; refine tlm ?_; refine tv (by first | exact o_addI rfl rfl (by omega) | exact o_add rfl rfl) ?_; refine tl_env (d := 76) (v := .int .i64 ((p + rkT (readS (s.ls.length * 64) at_ sz room p) : Nat) : Int)) (by first | rfl | (show Value.int .i64 _ = _; congr 1; omega)) ?_; refine tla ?_; refine tl_nil ?_; refine q_block_n (q_then_n ?_); refine tc_reg ?_; refine tlm ?_; refine tv (o_sub rfl rfl) ?_; refine tl_env (d := 59) (v := .int .u64 ((j - 1 : Nat) : Int)) (by show Value.int .u64 (IntKind.u64.wrap ((j : Int) - 1)) = _; rw [show (j : Int) - 1 = ((j - 1 : Nat) : Int) by omega, wr_u64 (by omega)]) ?_
                refine tla ?_; refine nq ?_; exact ⟨_, by omega, j - 1, _, n + 1, D ++ [(rdW (readS (s.ls.length * 64) at_ sz room p), rdO (readS (s.ls.length * 64) at_ sz room p))], vs ++ [(.slice a64 (rdO (readS (s.ls.length * 64) at_ sz room p)).length c64)], a73, c73, by rw [← recs_some hrd hj]; exact hp0, by omega, by rw [List.length_append, hp2]; rfl, by rw [List.length_append, hp3]; rfl, hc73, by omega, by omega, rfl, rfl, rfl, rfl, rfl, rfl, (by repeat (first | with_reducible exact dr_refl | apply dr_keep | apply dr_drop))⟩
            · obtain rfl : j = 0 := by first | omega | (simp at h; omega)
              refine tc_exit ?_; refine q_then_e (q_then_e (q_block_x (q_then_n ?_))); refine sr ?_; refine tlm ?_; refine tla ?_; refine tla ?_; refine nq ?_; refine tc_ret ?_
              have e0 : recordsS at_ sz s = (D, 0) := by rw [← hp0]; unfold recsF cat; rw [if_neg (by simp), List.append_nil]
              rw [e0]
              exact ⟨.tuple #[.slice a8 n c8, .int .i64 0], R * Dev d s * Parts vs (D.map (·.2)) * Sl 2 (.slice a8 n c8) n (kcl D vs), res2 rfl rfl rfl, Dr.sat (by repeat (first | with_reducible exact dr_refl | apply dr_keep | apply dr_drop)), a8, c8, vs, by rw [hp2], by rw [hp2]; exact hp4, by rw [hp3]; exact hp2.symm, by rw [hC]; simp only []; rw [hp2]⟩
end Go.Vl

namespace Go.Vl
open Go Go.Proofs
namespace Rg
section
variable {P : Program} {n : Nat} {ops : Array Oper} {A : SP} {ρ : Env} {o : Oper} {rest : List Oper} {Q : Post}
def QL (P : Program) (n : Nat) (ops : Array Oper) (A : SP) (K : Env → Prop) (l : List Oper) (ρ : Env) : Prop :=
  ∀ g a, Agr n ρ a → wpQuietIn (Fc ⟨none⟩) 0 P ops (fun w => sat g w A) (fun a' => ∃ ρ', Agr n ρ' a' ∧ K ρ') l a
theorem ql_nil {K : Env → Prop} (h : K ρ) : QL P n ops A K [] ρ := fun g a ha => wpQuietIn_nil ⟨ρ, ha, h⟩
theorem ql_skip {K : Env → Prop} (hw : wantE n ops ρ o = false) (k : QL P n ops A K rest (put n ρ o.dst undef)) : QL P n ops A K (o :: rest) ρ := fun g a ha => by
  unfold wpQuietIn
  rw [want_eq ha, hw]
  exact ⟨fun _ _ _ _ => trivial, k g _ (ha.put _ _)⟩
theorem ql_v {K : Env → Prop} {v : Value} (hw : wantE n ops ρ o = true) (h : OpV P n ρ A o v) (k : QL P n ops A K rest (put n ρ o.dst v)) : QL P n ops A K (o :: rest) ρ := fun g a ha => by
  unfold wpQuietIn
  rw [want_eq ha, hw, if_pos rfl]
  refine ⟨fun _ _ _ _ => trivial, v, fun w hs => ?_, k g _ (ha.put _ _)⟩
  unfold Oper.quietAtIn
  rw [ha.eval, h g w hs]
  exact ⟨rfl, rfl⟩
theorem ql_env {K : Env → Prop} {l : List Oper} {d : Nat} {v : Value} (h : ρ d = v) (k : QL P n ops A K l (upd ρ d v)) : QL P n ops A K l ρ := by
  rw [← env_set h] at k; exact k
theorem ql_bool {K : Env → Prop} {l : List Oper} {d : Nat} {b : Bool} (hv : ρ d = .bool b) (ht : b = true → QL P n ops A K l (upd ρ d (.bool true))) (hf : b = false → QL P n ops A K l (upd ρ d (.bool false))) : QL P n ops A K l ρ := by
  cases b with
  | true => exact ql_env hv (ht rfl)
  | false => exact ql_env hv (hf rfl)
theorem tc_regq {id : Nat} {l : List Oper} (hm : P.follows .mixedOrders = true) (hB : Region.lexB .any l.toArray = true) (h : QL P n l.toArray A (fun ρ' => Q .normal ρ' A) l ρ) :
    @TC ⟨none⟩ P n (.region id l.toArray true) Q ρ A := fun g a w ha hs => by
  refine wpIn_region_quiet (C := fun w => sat g w A) rfl hm hB (hs.draw rfl rfl rfl rfl) ?_
  have hh := h g a ha
  have he : l.toArray.toList = l := by simp
  rw [he]
  have mono : ∀ (l' : List Oper) (a : Act), wpQuietIn (Fc ⟨none⟩) 0 P l.toArray (fun w => sat g w A) (fun a' => ∃ ρ', Agr n ρ' a' ∧ Q .normal ρ' A) l' a →
      wpQuietIn (Fc ⟨none⟩) 0 P l.toArray (fun w => sat g w A) (fun a' => ∀ w', sat g w' A → lift g n Q .normal a' w') l' a := by
    intro l'
    induction l' with
    | nil => intro a ⟨ρ', h1, h2⟩ w' hw'; exact ⟨rfl, ρ', A, h1, hw', h2⟩
    | cons o l' ih =>
      intro a h
      unfold wpQuietIn at h ⊢
      refine ⟨h.1, ?_⟩
      have h2 := h.2
      split
      · rename_i hw
        rw [if_pos hw] at h2
        exact Oper.quietIn_mono (fun a => ih a) h2
      · rename_i hw
        rw [if_neg hw] at h2
        exact ih _ h2
  exact mono l a hh
end
end Rg
end Go.Vl

namespace Go.Vl
open Go Go.Proofs
namespace Rg
section
variable {P : Program} {m : Nat} {ops : Array Oper} {μ : Rm}
/-- No operation of a row is a defer: by reckoning. -/
def nodB (l : List Oper) : Bool := l.all fun o => match o.op with | .defer _ => false | _ => true
theorem nod_of {l : List Oper} (h : nodB l = true) : ∀ (i : Nat) (o : Oper), l.toArray[i]? = some o → ∀ c, o.op ≠ .defer c := fun i o hi c e => by
  have h1 := List.all_eq_true.1 h o (List.mem_of_getElem? (by simpa using hi))
  simp [e] at h1
theorem upon_tr {o : Oper} {a : Act} {K : Act → World → Prop} {Q : Exit → Act → World → Prop} {r : Result Next} : Oper.uponIn (Fc ⟨none⟩) m P o a K Q r = Oper.uponIn (Fc μ) m P o a K Q r := by
  cases r with
  | ok x w => cases x <;> rfl
  | halt x w => cases x <;> rfl
theorem op_tr {i : Nat} {K : Act → World → Prop} {Q : Exit → Act → World → Prop} {a : Act} {w : World} (hnd : ∀ (i : Nat) (o : Oper), ops[i]? = some o → ∀ c, o.op ≠ .defer c) (h : wpOpIn (Fc ⟨none⟩) m P ops Q i K a w) : wpOpIn (Fc μ) m P ops Q i K a w := by
  unfold wpOpIn at *
  cases hi : ops[i]? with
  | none => simpa [hi] using h
  | some o =>
    simp only [hi] at h ⊢
    split
    · rename_i hw
      simp only [hw, if_true] at h
      unfold Oper.wpIn at *
      rw [Oper.semAt_eq _ _ _ (hnd i o hi)] at h ⊢
      rw [← upon_tr]
      exact h
    · rename_i hw
      simp only [hw] at h
      exact h
theorem any_tr {Q : Exit → Act → World → Prop} (hnd : ∀ (i : Nat) (o : Oper), ops[i]? = some o → ∀ c, o.op ≠ .defer c) : ∀ (fuel : Nat) (listed : Array Bool) (a : Act) (w : World), wpAnyIn (Fc ⟨none⟩) m P .any ops Q fuel listed a w → wpAnyIn (Fc μ) m P .any ops Q fuel listed a w
  | 0, _, _, _, h => h
  | fuel + 1, _, _, _, h => ⟨h.1, fun i hi => op_tr hnd (wpOpIn_mono (fun a w => any_tr hnd fuel _ a w) (h.2 i hi))⟩
/-- What is left of a region in a round: by what is left of it in a function. -/
theorem tc_regt {n : Nat} {Q : Post} {ρ : Env} {A : SP} {id : Nat} {l : List Oper} (hm : P.follows .mixedOrders = true) (hd : nodB l = true)
    (h : ∀ g a w, Agr n ρ a → sat g w A → wpAnyIn (Fc ⟨none⟩) 0 P .any l.toArray (lift g n Q) l.length (Array.replicate l.length false) a w) : @TC μ P n (.region id l.toArray true) Q ρ A := fun g a w ha hs =>
  wpIn_region_any hm (by
    have h1 := h g a { w with drawn := w.drawn + 1 } ha (hs.draw rfl rfl rfl rfl)
    have h2 := any_tr (μ := μ) (nod_of hd) _ _ _ _ h1
    simpa using h2)
end
end Rg
end Go.Vl

namespace Go.Vl
open Go Go.Proofs
namespace Rg
section
variable {P : Program} {n : Nat} {ops : Array Oper} {A S : SP} {ρ : Env} {o : Oper} {Q : Post}
def notCall (o : Oper) : Bool := match o.op with | .call _ => false | _ => true
theorem about_none {o : Oper} (h : notCall o = true) (w : World) (e : Operand → Value) : o.about P w e = none := by
  unfold notCall at h
  unfold Oper.about
  cases ho : o.op <;> first | rfl | (simp [ho] at h)
def TH (P : Program) (n : Nat) (ops : Array Oper) (Q : Post) (S : SP) (fuel : Nat) (listed : Array Bool) (ρ : Env) (A : SP) : Prop :=
  ∀ g a w, Agr n ρ a → sat g w A → wpAnyIn (Fc ⟨none⟩) 0 P .any ops (lift g n Q) fuel listed a w
theorem tc_regh {μ : Rm} {id : Nat} {l : List Oper} (hm : P.follows .mixedOrders = true) (hd : Dr A S) (h : TH P n l.toArray Q S l.length (Array.replicate l.length false) ρ A) (hn : nodB l = true := by kernel_rfl) : @TC μ P n (.region id l.toArray true) Q ρ A :=
  tc_regt hm hn h
theorem th_done {fuel : Nat} {listed : Array Bool} (hr : Region.ready .any ops listed = []) (h : Q .normal ρ A) : TH P n ops Q S fuel listed ρ A := fun g a w ha hs =>
  wpAnyIn_done hr ⟨rfl, ρ, A, ha, hs, h⟩ fuel
theorem th_take {fuel i : Nat} {listed listed' : Array Bool} {v : Value} (hi : ops[i]? = some o) (hs' : Region.noSelect ops = true) (hf : Region.free .any ops listed i = true) (hr : (Region.ready .any ops listed).contains i = true)
    (hl : listed.setIfInBounds i true = listed') (hw : wantE n ops ρ o = true) (hv : OpV P n ρ emp o v) (k : TH P n ops Q S fuel listed' (put n ρ o.dst v) A) (hc : notCall o = true := by rfl) : TH P n ops Q S (fuel + 1) listed ρ A := fun g a w ha hs =>
  wpAnyIn_take rfl hi hs' hf hr (fun c a w h => absurd h.1 (by simp [okE])) ⟨.inl ⟨by rw [want_eq ha, hw], fun w' => by
    rw [ha.eval]
    exact hv ⟨w'.os, w'.tape, w'.output⟩ w' ⟨rfl, rfl, rfl, _, rfl, fun _ _ _ h => by cases h⟩⟩, fun w' => about_none hc w' _⟩ (by rw [hl]; exact k g _ w (ha.put _ _) hs)
def OH (P : Program) (n : Nat) (ops : Array Oper) (Q : Post) (S : SP) (fuel i : Nat) (listed : Array Bool) (ρ : Env) (A : SP) : Prop :=
  ∀ g a w, Agr n ρ a → sat g w A → wpOpIn (Fc ⟨none⟩) 0 P ops (lift g n Q) i (wpAnyIn (Fc ⟨none⟩) 0 P .any ops (lift g n Q) fuel (listed.setIfInBounds i true)) a w
theorem th_all {fuel : Nat} {listed : Array Bool} {rs : List Nat} (hr : Region.ready .any ops listed = rs) (hne : rs ≠ []) (h : ∀ i ∈ rs, OH P n ops Q S fuel i listed ρ A) : TH P n ops Q S (fuel + 1) listed ρ A := fun g a w ha hs =>
  wpAnyIn_all hr hne fun i hi => h i hi g a w ha hs
theorem th_one {fuel i : Nat} {listed : Array Bool} (hr : Region.ready .any ops listed = [i]) (h : OH P n ops Q S fuel i listed ρ A) : TH P n ops Q S (fuel + 1) listed ρ A := th_all hr (by simp) (by simpa using h)
theorem th_two {fuel i j : Nat} {listed : Array Bool} (hr : Region.ready .any ops listed = [i, j]) (h : OH P n ops Q S fuel i listed ρ A) (h' : OH P n ops Q S fuel j listed ρ A) : TH P n ops Q S (fuel + 1) listed ρ A :=
  th_all hr (by simp) (by simpa using ⟨h, h'⟩)
section
variable {fuel i : Nat} {listed listed' : Array Bool}
theorem oh_v {v : Value} (hi : ops[i]? = some o) (hl : listed.setIfInBounds i true = listed') (hw : wantE n ops ρ o = true) (h : OpV P n ρ A o v) (k : TH P n ops Q S fuel listed' (put n ρ o.dst v) A) : OH P n ops Q S fuel i listed ρ A := fun g a w ha hs => by
  subst hl
  unfold wpOpIn
  simp only [hi, want_eq ha, hw, if_true]
  refine ⟨fun _ _ => trivial, ?_⟩
  rw [ha.eval, sem_eq (h g w hs) (by simp)]
  exact k g _ w (ha.put _ _) hs
theorem oh_x {R : Value → SP → Prop} (hi : ops[i]? = some o) (hl : listed.setIfInBounds i true = listed') (hw : wantE n ops ρ o = true) (h : OpX P n ρ A o R) (k : ∀ v B, R v B → Dr B S ∧ TH P n ops Q S fuel listed' (put n ρ o.dst v) B) : OH P n ops Q S fuel i listed ρ A := fun g a w ha hs => by
  subst hl
  unfold wpOpIn
  simp only [hi, want_eq ha, hw, if_true]
  refine ⟨fun _ _ => trivial, ?_⟩
  obtain ⟨v, w', B, hr, hb, hR⟩ := h g w hs
  rw [ha.eval, sem_eq hr (by simp)]
  exact (k v B hR).2 g _ w' (ha.put _ _) hb
theorem oh_c {R : Value → SP → Prop} (hi : ops[i]? = some o) (hl : listed.setIfInBounds i true = listed') (hw : wantE n ops ρ o = true) (h : OpC P n ρ A o R) (k : ∀ v B, R v B → Dr B S ∧ TH P n ops Q S fuel listed' (put n ρ o.dst v) B) : OH P n ops Q S fuel i listed ρ A := fun g a w ha hs => by
  subst hl
  unfold wpOpIn
  simp only [hi, want_eq ha, hw, if_true]
  refine ⟨fun _ _ => trivial, ?_⟩
  obtain ⟨f, args, w', hr, hc⟩ := h g w hs
  rw [ha.eval, sem_eq hr (by simp)]
  refine ⟨fun h => (by cases h), ?_⟩
  have hc' : CallsIn Fence.wide (0 - 1) P f args w' fun e w'' => ∃ v B, e = .returned v ∧ R v B ∧ sat g w'' B := callsIn_wide.2 hc
  refine CallsIn.mono (show CallsIn (Fc ⟨none⟩) (0 - 1) P f args w' _ from hc') fun e w'' ⟨v, B, he, hR, hb⟩ => ?_
  subst he
  exact (k v B hR).2 g _ w'' (ha.put _ _) hb
theorem oh_u {B : SP} (hi : ops[i]? = some o) (hl : listed.setIfInBounds i true = listed') (hw : wantE n ops ρ o = true) (h : OpU P n ρ A o B) (hd : Dr B S) (k : TH P n ops Q S fuel listed' (put n ρ o.dst undef) B) : OH P n ops Q S fuel i listed ρ A := fun g a w ha hs => by
  subst hl
  unfold wpOpIn
  simp only [hi, want_eq ha, hw, if_true]
  refine ⟨fun _ _ => trivial, ?_⟩
  obtain ⟨w', hr, hb⟩ := h g w hs
  rw [ha.eval, sem_eq hr (by simp)]
  exact k g _ w' (ha.put _ _) hb
end
theorem th_env {fuel : Nat} {listed : Array Bool} {d : Nat} {v : Value} (h : ρ d = v) (k : TH P n ops Q S fuel listed (upd ρ d v) A) : TH P n ops Q S fuel listed ρ A := by
  rw [← env_set h] at k; exact k
end
end Rg
end Go.Vl

namespace Go.Vl
open Go Go.Proofs
def rvl (L : List (Nat × List Nat)) (vs : List Value) (k : Nat) : Value := .agg #[.int .i64 ((L.getD k (0, [])).1 : Nat), vs.getD k (.slice none 0 0)]
attribute [local irreducible] crk crL crc Sl pt ro Dev imgS recS readS recsF rdW rdO rkT Parts
namespace Rg
end Rg
end Go.Vl

namespace Go.Vl
open Go Go.Proofs
section
variable {at_ sz : Nat} {s s1 s2 s3 : DevS} {L : List (Nat × List Nat)} {e : Int}
end
def sumL (L : List (Nat × List Nat)) : Nat := (L.map fun x => x.2.length).sum
/-- What a record that was read is like. -/
def RecOk (n at_ sz : Nat) (x : Nat × List Nat) : Prop := mayX n at_ sz ((x.1 : Int), ((x.2.length : Nat) : Int)) = true ∧ ∀ b ∈ x.2, b < 256
theorem Records_w {A R : SP} {C : SP → SP} {d : Nat} {s : DevS} (hc : Ct A (Dev d s) R C := by repeat (first | with_reducible exact ct_here | apply ct_left)) {bl at_ sz : Nat} (hl : Has R bl (cl (lcs11 d at_ sz) 99) := by (repeat (first | assumption | with_reducible exact has_here | with_reducible exact has_pt | apply has_left))) (hlw : LogW (s.ls.length * 64) at_ sz := by assumption) {L : List (Nat × List Nat)} {e : Int} (hX : recordsS at_ sz s = (L, e)) : Fn Tryz.prog 108 #[.pointer (some ⟨bl, 0, none⟩)] A (fun r B => ∃ a2 c2 vs, r = .tuple #[.slice a2 L.length c2, .int .i64 e] ∧ L.length ≤ c2 ∧ vs.length = L.length ∧ B = C (Dev d s) * Parts vs (L.map (·.2)) * Sl 2 (.slice a2 L.length c2) L.length (kcl L vs)) := by
  have h := Records_c hc hl hlw
  rw [hX] at h
  exact h
attribute [local irreducible] crk crL crc Sl pt ro Dev imgS recS readS recsF rdW rdO rkT Parts rvl recordsS
namespace Rg
end Rg
end Go.Vl

namespace Go.Vl
open Go Go.Proofs
/-! ### What a record reads -/
def oldsL (I : List Nat) (l : List (Int × Int)) : List (Nat × List Nat) := l.map fun x => (x.1.toNat, (I.drop x.1.toNat).take x.2.toNat)
theorem records_none {at_ sz : Nat} {s : DevS} (hO : s.off = false) (hlw : LogW (s.ls.length * 64) at_ sz) (h1 : nm (((imgS s).drop at_).take 8) = 0) : recordsS at_ sz s = ([], 0) := by
  have ht := hlw.top; have hsz := hlw.s; have ham := hlw.am
  unfold recordsS
  rw [if_neg (by rw [hO]; decide), word_in hO (by omega) (by omega), h1]; rfl
/-! ### A Write -/
def wrI1 (at_ : Nat) (I : List Nat) (l : List (Int × Int)) : List Nat := spl I (at_ + 64) (recsB I l)
def wrI (at_ : Nat) (I : List Nat) (l : List (Int × Int)) : List Nat := spl (wrI1 at_ I l) at_ (le 8 l.length)
end Go.Vl

namespace Go.Vl
open Go Go.Proofs
/-- A line is flushed, up to its last content. -/
def Mkd (j : Nat) (s : DevS) : Prop := ∀ l, s.ls[j]? = some l → l.mark = (l.st.length : Int) - 1
/-! ### The bytes of extents -/
def InX (L : List (Nat × List Nat)) (i : Nat) : Prop := ∃ x ∈ L, x.1 ≤ i ∧ i < x.1 + x.2.length
/-- What a line may hold: outside the extents, what the image has. -/
def XU (L : List (Nat × List Nat)) (I : List Nat) (q : Nat) (c : List Nat) : Prop := ∀ j, j < 64 → ¬ InX L (q * 64 + j) → c[j]? = I[q * 64 + j]?
/-- Outside the extents all is as the image has it. -/
structure AS (L : List (Nat × List Nat)) (I : List Nat) (s : DevS) : Prop where
  wf : WfD s
  len : I.length = s.ls.length * 64
  poss : Poss (XU L I) s
  one : ∀ (q : Nat) (l : LineS), (∀ i, InX L i → i / 64 ≠ q) → s.ls[q]? = some l → l.st.length = 1
theorem AS.img {L : List (Nat × List Nat)} {I : List Nat} {s : DevS} (h : AS L I s) {i : Nat} (hi : ¬ InX L i) : (imgS s)[i]? = I[i]? := by
  have hil := imgS_len h.wf
  have hl := h.len
  rcases Nat.lt_or_ge i (s.ls.length * 64) with h1 | h1
  · have := poss_img h.wf h.poss (q := i / 64) (by omega) (i % 64) (by omega) (by rw [show i / 64 * 64 + i % 64 = i by omega]; exact hi)
    rw [chunk_at (by omega), show i / 64 * 64 + i % 64 = i by omega] at this
    exact this
  · rw [List.getElem?_eq_none (by omega), List.getElem?_eq_none (by omega)]
theorem AS.sub {L : List (Nat × List Nat)} {I : List Nat} {s : DevS} (h : AS L I s) {p m : Nat} (hd : ∀ i, p ≤ i → i < p + m → ¬ InX L i) : ((imgS s).drop p).take m = (I.drop p).take m := by
  apply List.ext_getElem?
  intro i
  rw [List.getElem?_take, List.getElem?_take]
  split
  · rw [List.getElem?_drop, List.getElem?_drop]; exact h.img (hd _ (by omega) (by omega))
  · rfl
/-- Some records are back. -/
structure Got (D : List (Nat × List Nat)) (I : List Nat) (s : DevS) : Prop where
  img : ∀ i, InX D i → (imgS s)[i]? = I[i]?
  mkd : ∀ i, InX D i → Mkd (i / 64) s
end Go.Vl

namespace Go.Vl
open Go Go.Proofs
/-- A book beside a device on which a loss of power is planned. -/
def armP (after : Int) (keep : List Int) (Q : PlS) : PlS := { Q with s := { Q.s with arms := [(after, keep)], cnt := Q.s.ops } }
/-- What one step does to both. -/
structure ArmStep (after : Int) (keep : List Int) (P' : Bool × PlS) (Q : PlS) (Q' : Bool × PlS) : Prop where
  ok : Q'.1 = true
  ops : P'.2.s.ops = Q'.2.s.ops
  near : Q'.2.s.ops = Q.s.ops ∨ Q'.2.s.ops = Q.s.ops + 1
  on : Q'.2.s.ops ≠ after → P' = (true, armP after keep Q'.2)
  gone : Q'.2.s.ops = after → P'.1 = false ∧ P'.2.s.off = true ∧ P'.2.s.arms = [] ∧ P'.2.s.ls = (goesS keep Q'.2.s).ls
theorem WfP.mono {r r' : Nat} {P : PlS} (h : WfP r P) (hr : r' ≤ r) : WfP r' P := ⟨h.pos, h.top, h.ls, h.seen, h.held, h.last, h.sure, fun l hl => by have := h.room l hl; omega, fun l hl => by have := h.hroom l hl; omega⟩
end Go.Vl

namespace Go.Vl
open Go Go.Proofs
theorem spl_take_le {α : Type} {l b : List α} {p k : Nat} (h : p + b.length ≤ l.length) (hk : k ≤ p) : (spl l p b).take k = l.take k := by
  apply List.ext_getElem?
  intro i
  rw [List.getElem?_take, List.getElem?_take]
  split
  · rw [spl_at h, if_neg (by omega)]
  · rfl
end Go.Vl

namespace Go.Vl
open Go Go.Proofs
def rise (n : Nat) : List Nat := (List.range n).map fun i => i % 256
/-- The image: bytes that rise, eight zeros at 128; so far k of them. -/
def mdK (k : Nat) : List Nat := spl (rise 1024) 128 (List.replicate k 0)
def mdI : List Nat := mdK 8
def mds : DevS := fromS 16 mdI
/-- An image with a log of these records. -/
def LogI (sz : Nat) (l : List (Int × Int)) (I : List Nat) : Prop := nm ((I.drop 128).take 8) = l.length ∧ (I.drop 192).take (needN l) = recsB mdI l ∧ I.length = 1024 ∧ Out 128 (128 + sz) I mdI
end Go.Vl

namespace Go.Vl
open Go Go.Proofs
def NoL (A : SP) (v : Value) : Prop := v = .pointer none ∨ ∃ b, v = .pointer (some ⟨b, 0, none⟩) ∧ Has A b (cl [.pointer none, .int .i64 0, .int .i64 0] 99)
theorem NoL.left {A X : SP} {v : Value} (h : NoL A v) : NoL (A * X) v := h.imp id fun ⟨b, e, hc⟩ => ⟨b, e, has_left hc⟩
attribute [local irreducible] crk crL crc Sl pt ro Dev imgS recS readS recsF rdW rdO rkT Parts rvl recordsS mdI mdK rise mds writeS rollS
namespace Rg
end Rg
namespace Rg
end Rg
end Go.Vl

namespace Go.Vl
open Go Go.Proofs
def lst (xs : List Int) (i : Nat) : List (Int × Int) := (xs.take i).map fun x => ((600 : Int), 1 + x % 90)
end Go.Vl

namespace Go.Vl
open Go Go.Proofs
/-- An extent, brought to where it may be. -/
def brN (x : Int × Int) : Int := 1 + (IntKind.i64.wrap (x.2 - 1)) % 40
def brX (x : Int × Int) : Int × Int := (if 256 ≤ x.1 ∨ x.1 < 0 then 512 + x.1 % (512 - brN x + 1) else 64 + x.1 % (64 - brN x + 1), brN x)
def brL (es : List (Int × Int)) (i : Nat) : List (Int × Int) := (es.take i).map brX
def fiveX (k : Nat) : List (Int × Int) := (List.range k).map fun i : Nat => ((64 : Int), 1 + (i : Int))
end Go.Vl

namespace Go.Vl
open Go Go.Proofs
/-- The bytes of records can be read. -/
def PsR (A : SP) (L : List (Nat × List Nat)) (vs : List Value) : Prop := ∀ k, k < L.length → ∃ b c, vs.getD k (.slice none 0 0) = .slice b (L.getD k (0, [])).2.length c ∧ Rs A b (bys (L.getD k (0, [])).2) ∧ (L.getD k (0, [])).2.length ≤ 4294967296
theorem PsR.left {A X : SP} {L : List (Nat × List Nat)} {vs : List Value} (h : PsR A L vs) : PsR (A * X) L vs := fun k hk => by
  obtain ⟨b, c, e, hr, hl⟩ := h k hk; exact ⟨b, c, e, hr.left, hl⟩
end Go.Vl

namespace Go.Vl
open Go Go.Proofs
def kpR (kp : List Int) (i : Nat) : List Int := (kp.take i).map fun x => x % 1000
end Go.Vl

namespace Go.Vl
open Go Go.Proofs
def PXts (A : SP) (cs : List Value) (es : List (Int × Int)) : Prop := ∃ a c, cs = [.slice a es.length c] ∧ es.length ≤ c ∧ es.length ≤ 8796093022208 ∧ Rs A a (xcl es) ∧ ∀ x ∈ es, XW x
/-- One arm of a story. -/
structure Ar1 where
  af : Int
  a : Option Addr
  c : Nat
  kp : List Int
def Ar1.cells (x : Ar1) : List Value := [.int .i64 x.af, .slice x.a x.kp.length x.c]
def PArs (A : SP) (cs : List Value) (p : List Value × List (Int × List Int)) : Prop := ∃ a c, cs = [.slice a p.2.length c] ∧ p.2.length ≤ c ∧ p.2.length ≤ 4398046511104 ∧ RdA A a p.1 p.2 ∧ ∀ x ∈ p.2, (-9223372036854775808 ≤ x.1 ∧ x.1 ≤ 9223372036854775807) ∧ x.2.length ≤ 17592186043904 ∧ ∀ k ∈ x.2, -9223372036854775808 ≤ k ∧ k ≤ 9223372036854775807
/-- One change of a story. -/
structure Chg where
  q : Int
  p : Int
  a : Option Addr
  c : Nat
  b : List Nat
  fl : Bool
  fe : Bool
def Chg.cells (x : Chg) : List Value := [.int .i64 x.q, .int .i64 x.p, .slice x.a x.b.length x.c, .bool x.fl, .bool x.fe]
structure ChgW (A : SP) (x : Chg) : Prop where
  q : (-9223372036854775808 ≤ x.q ∧ x.q ≤ 9223372036854775807)
  p : (-9223372036854775808 ≤ x.p ∧ x.p ≤ 9223372036854775807)
  cap : x.b.length ≤ x.c
  len : x.b.length ≤ 140737488351232
  rs : Rs A x.a (bys x.b)
  by_ : ∀ y ∈ x.b, y < 256
theorem ChgW.left {A X : SP} {x : Chg} (h : ChgW A x) : ChgW (A * X) x := ⟨h.q, h.p, h.cap, h.len, h.rs.left, h.by_⟩
def chl (l : List Chg) : List Value := l.flatMap Chg.cells
def PChs (A : SP) (cs : List Value) (l : List Chg) : Prop := ∃ a c, cs = [.slice a l.length c] ∧ l.length ≤ c ∧ l.length ≤ 2932031007403 ∧ Rs A a (chl l) ∧ ∀ x ∈ l, ChgW A x
/-- A story. -/
structure Stx where
  es : List (Int × Int)
  ch : List Chg
  kvs : List Value
  ars : List (Int × List Int)
  lg : Bool
def PSto (A : SP) (cs : List Value) (t : Stx) : Prop := ∃ v1 v2 v3, cs = [v1, v2, v3, .bool t.lg] ∧ PXts A [v1] t.es ∧ PChs A [v2] t.ch ∧ PArs A [v3] (t.kvs, t.ars)
end Go.Vl

namespace Go.Vl
open Go Go.Proofs
/-! ### One operation of a story -/
/-! ### The state behind a Write, changes, and losses -/
/-- What a story's extents are, brought to where they may be. -/
def XIn (x : Int × Int) : Prop := 1 ≤ x.2 ∧ x.2 ≤ 40 ∧ ((64 ≤ x.1 ∧ x.1 + x.2 ≤ 128) ∨ (512 ≤ x.1 ∧ x.1 + x.2 ≤ 1024))
structure CSt (X : List (Int × Int)) (I : List Nat) (r : Nat) (s : DevS) : Prop where
  ast : AS (oldsL mdI X) I s
  len : s.ls.length = 16
  room : Room r s
/-- The log is empty again. -/
structure Clr (I : List Nat) (s : DevS) : Prop where
  wf : WfD s
  cln : Cln s
  img : imgS s = spl I 128 (le 8 0)
  len : s.ls.length = 16
structure Trn (X : List (Int × Int)) (I : List Nat) (s : DevS) : Prop where
  room : Room 385 s
  ast : (X ≠ [] ∧ AS (oldsL mdI X) I s ∧ s.ls.length = 16) ∨ Clr I s
end Go.Vl

namespace Go.Vl
open Go Go.Proofs
def Ar1.pr (x : Ar1) : Int × List Int := (x.af, x.kp)
def ownR (x : Ar1) : SP := Sl 1 (.slice x.a x.kp.length x.c) x.kp.length (ints x.kp)
/-- An arm, as it may be. -/
def brA (x : Int × List Int) : Int × List Int := (1 + x.1 % 60, x.2.map fun k => k % 1000)
structure ArP (xs : List Ar1) (ars : List (Int × List Int)) : Prop where
  mp : xs.map Ar1.pr = ars.map brA
  cp : ∀ x ∈ xs, x.kp.length ≤ x.c
def ArB (a : Option Addr) (c n : Nat) (xs : List Ar1) : SP := Sl 2 (.slice a n c) n (xs.flatMap Ar1.cells) * Bs ownR xs
end Go.Vl

namespace Go.Vl
open Go Go.Proofs
/-- A change, read: of any length. -/
structure ChgV (A : SP) (x : Chg) : Prop where
  q : -9223372036854775808 ≤ x.q ∧ x.q ≤ 9223372036854775807
  p : -9223372036854775808 ≤ x.p ∧ x.p ≤ 9223372036854775807
  cap : x.b.length ≤ x.c
  rs : Rs A x.a (bys x.b)
  by_ : ∀ y ∈ x.b, y < 256
theorem ChgV.left {A X : SP} {x : Chg} (h : ChgV A x) : ChgV (A * X) x := ⟨h.q, h.p, h.cap, h.rs.left, h.by_⟩
end Go.Vl

namespace Go.Vl
open Go Go.Proofs
def ArOk (ars : List (Int × List Int)) : Prop := ∀ x ∈ ars, (-9223372036854775808 ≤ x.1 ∧ x.1 ≤ 9223372036854775807) ∧ x.2.length ≤ 1099511627776 ∧ ∀ k ∈ x.2, -9223372036854775808 ≤ k ∧ k ≤ 9223372036854775807
end Go.Vl

namespace Go.Vl
open Go Go.Proofs
def PXtU (A : SP) (cs : List Value) (es : List (Int × Int)) : Prop := ∃ a c, cs = [.slice a es.length c] ∧ es.length ≤ c ∧ Rs A a (xcl es) ∧ ∀ x ∈ es, XW x
def PArU (A : SP) (cs : List Value) (p : List Value × List (Int × List Int)) : Prop := ∃ a c, cs = [.slice a p.2.length c] ∧ p.2.length ≤ c ∧ RdA A a p.1 p.2 ∧ ∀ x ∈ p.2, (-9223372036854775808 ≤ x.1 ∧ x.1 ≤ 9223372036854775807) ∧ ∀ k ∈ x.2, -9223372036854775808 ≤ k ∧ k ≤ 9223372036854775807
def PChU (A : SP) (cs : List Value) (l : List Chg) : Prop := ∃ a c, cs = [.slice a l.length c] ∧ l.length ≤ c ∧ Rs A a (chl l) ∧ ∀ x ∈ l, ChgV A x
def PStU (A : SP) (cs : List Value) (t : Stx) : Prop := ∃ v1 v2 v3, cs = [v1, v2, v3, .bool t.lg] ∧ PXtU A [v1] t.es ∧ PChU A [v2] t.ch ∧ PArU A [v3] (t.kvs, t.ars)
def Stx.sz (t : Stx) : Nat := t.es.length + (t.ch.map fun x => x.b.length + 1).sum + (t.ars.map fun x => x.2.length + 1).sum
end Go.Vl

namespace Go.Vl
open Go Go.Proofs
/-- A slice v of n elements of k cells, and what it was grown to, v', of m: within one block, or apart. -/
def GrK (k : Nat) (v : Value) (n : Nat) (xs : List Value) (v' : Value) (m : Nat) (ys : List Value) : SP := fun h =>
  (∃ a c, v = .slice a n c ∧ v' = .slice a m c ∧ n ≤ m ∧ xs = ys.take (n * k) ∧ Sl k v' m ys h) ∨ (Sl k v n xs * Sl k v' m ys) h
/-! ### Two lists in turns -/
def ilv {α : Type} : List α → List α → List α
  | x :: xs, y :: ys => x :: y :: ilv xs ys
  | _, _ => []
end Go.Vl

namespace Go.Vl
open Go Go.Proofs
def pc (x : Int × Value) : List Value := [.int .i64 x.1, x.2]
def pcl (l : List (Int × Value)) : List Value := l.flatMap pc
def rpl (n : Nat) (k : Int) : List (Int × Value) := List.replicate n (k, .slice none 0 0)
def kz : List (Nat × List Nat) → List Value → List (Int × Value)
  | x :: l, v :: vs => ((x.1 : Nat), v) :: kz l vs
  | _, _ => []
end Go.Vl

namespace Go.Vl
open Go Go.Proofs
attribute [local irreducible] crk crL crc Sl pt ro Dev imgS recS readS recsF rdW rdO rkT Parts rvl recordsS mdI mdK rise mds writeS rollS clearS oldsL kcl xcl RDev
theorem rRound8_c {A : SP} {n : Nat} (hn : n ≤ 9223372036854775807 := by omega) :
    Fn Tryz.prog 259 #[.int .i64 (n : Nat), .int .i64 8] (A) (fun r B => r = .tuple #[.int .i64 (rndS n).1, .int .i64 (rndS n).2] ∧ A = B) := by
  refine fn_enterW (args := [.int .i64 (n : Nat), .int .i64 8]) Tryz.func259 rfl Tryz.ntmps259 (by simp) ?_
  have hp8 : pad8 n < 8 := by unfold pad8; omega
  refine sr ?_; refine tla ?_; refine tla ?_; refine nq ?_; refine tc_seq ?_; refine sr ?_; refine tlm ?_; refine tv (o_lss rfl rfl) ?_; refine tlm ?_; refine tl_bool (d := 9) rfl (fun h => ?_) (fun h => ?_)
  · exfalso; first | (simp at h; done) | (simp at h; omega)
  · try simp only [lv1, lv2, lv3, lv4, lv5, lv6, Bool.not_true, Bool.not_false] at h
    refine tlm ?_; refine tv (o_lss rfl rfl) ?_; refine tv (o_pick_f rfl (by conv => lhs; whnf)) ?_; refine nq ?_; refine tc_cond rfl (fun h => ?_) (fun h => ?_)
    · exfalso; simp at h
    · try simp only [lv1, lv2, lv3, lv4, lv5, lv6, Bool.not_true, Bool.not_false] at h
      refine tc_skip ?_; refine q_then_n ?_; refine sr ?_; refine tlm ?_; refine tlm ?_; refine tv (o_remN (b := 8) rfl rfl (by decide)) ?_; refine tl_env (d := 15) (v := .int .i64 ((n % 8 : Nat) : Int)) (rfl) ?_; refine tla ?_; refine nq ?_; refine tc_seq ?_; refine sr ?_; refine tlm ?_; refine tv (o_eqi rfl rfl) ?_; refine nq ?_; refine tc_cond rfl (fun h => ?_) (fun h => ?_)
      · have g17 : n % 8 = 0 := by first | (have h9 := of_decide_eq_true h; omega) | (simp at h; omega)
        refine sr ?_; refine tlm ?_; refine tla ?_; refine tla ?_; refine nq ?_; refine tc_ret ?_; refine q_then_r ?_
        have e : rndS n = ((n : Int), 0) := by unfold rndS up8; have : pad8 n = 0 := (by unfold pad8; omega); rw [this, if_neg (by omega)]; rfl
        rw [e]
        exact ⟨.tuple #[.int .i64 (n : Nat), .int .i64 0], A, res2 rfl rfl rfl, Dr.sat (by repeat (first | with_reducible exact dr_refl | apply dr_keep | apply dr_drop)), rfl, rfl⟩
      · have g17 : ¬ n % 8 = 0 := by first | (have h9 := of_decide_eq_false h; omega) | (simp at h; omega)
        have hpp : pad8 n = 8 - n % 8 := by unfold pad8; omega
        refine tc_skip ?_; refine q_then_n ?_; refine tc_seq ?_; refine sr ?_; refine tlm ?_; refine tlm ?_; refine tlm ?_; refine tv (o_subI rfl rfl (by omega)) ?_; refine tv (o_subI rfl rfl (by omega)) ?_; refine tv (o_gtr rfl rfl) ?_; refine nq ?_; refine tc_cond rfl (fun h => ?_) (fun h => ?_)
        · have g24 : 9223372036854775807 < n + pad8 n := by first | (have h9 := of_decide_eq_true h; omega) | (simp at h; omega)
          refine sr ?_; refine tla ?_; refine tla ?_; refine nq ?_; refine tc_ret ?_; refine q_then_r ?_
          have e : rndS n = (0, 2) := by unfold rndS; rw [if_pos g24]
          rw [e]
          exact ⟨.tuple #[.int .i64 0, .int .i64 2], A, res2 rfl rfl rfl, Dr.sat (by repeat (first | with_reducible exact dr_refl | apply dr_keep | apply dr_drop)), rfl, rfl⟩
        · have g24 : ¬ 9223372036854775807 < n + pad8 n := by first | (have h9 := of_decide_eq_false h; omega) | (simp at h; omega)
          refine tc_skip ?_; refine q_then_n ?_; refine sr ?_; refine tlm ?_; refine tlm ?_; refine tlm ?_; refine tv (o_subI rfl rfl (by omega)) ?_; refine tv (o_addI rfl rfl (by omega)) ?_; refine tl_env (d := 29) (v := .int .i64 ((up8 n : Nat) : Int)) (by show Value.int .i64 ((n : Int) + (8 - ((n % 8 : Nat) : Int))) = _; congr 1; unfold up8; omega) ?_; refine tla ?_; refine tla ?_; refine nq ?_; refine tc_ret ?_
          have e : rndS n = (((up8 n : Nat) : Int), 0) := by unfold rndS; rw [if_neg g24]
          rw [e]
          exact ⟨.tuple #[.int .i64 ((up8 n : Nat) : Int), .int .i64 0], A, res2 rfl rfl rfl, Dr.sat (by repeat (first | with_reducible exact dr_refl | apply dr_keep | apply dr_drop)), rfl, rfl⟩
theorem rOpen_okf (A : SP) {r : Nat} {lv av : Value} {rls : List RL} {s : DevS} (hR : RdevR A r lv rls av s) {p q : Int} (hp : -9223372036854775808 ≤ p ∧ p ≤ 9223372036854775807) (hq : -9223372036854775808 ≤ q ∧ q ≤ 9223372036854775807) (hok : (64 ≤ p ∧ p % 64 = 0 ∧ 128 ≤ q ∧ q % 64 = 0 ∧ p ≤ (s.ls.length : Int) * 64 ∧ q ≤ (s.ls.length : Int) * 64 - p)) :
    Fn Tryz.prog 81 #[.pointer (some ⟨r, 0, none⟩), .int .i64 p, .int .i64 q] (A) (fun v B => ∃ X, B = A * X ∧ ∃ b, v = .tuple #[.pointer (some ⟨b, 0, none⟩), .int .i64 0] ∧ X = pt b (cl [.pointer (some ⟨r, 0, none⟩), .int .i64 p, .int .i64 q] 233)) := by
  refine fn_enterW (args := [.pointer (some ⟨r, 0, none⟩), .int .i64 p, .int .i64 q]) Tryz.func81 rfl Tryz.ntmps81 (by simp) ?_
  have htop := hR.wf.top
  refine sr ?_; refine tla ?_; refine tla ?_; refine nq ?_; refine tc_seq ?_; refine sr ?_; refine tlm ?_; refine tv (o_eqp Tryz.underlying48 rfl rfl) ?_; refine nq ?_; refine tc_cond rfl (fun h => ?_) (fun h => ?_)
  · exfalso; simp at h
  · try simp only [lv1, lv2, lv3, lv4, lv5, lv6, Bool.not_true, Bool.not_false] at h
    refine tc_skip ?_; refine q_then_n ?_; refine tc_seq ?_; refine tc_seq ?_; refine tc_cut (fun ρ BB => ∃ (bb : Bool), (bb = decide (¬ (64 ≤ p ∧ p % 64 = 0 ∧ 128 ≤ q ∧ q % 64 = 0 ∧ p ≤ (s.ls.length : Int) * 64 ∧ q ≤ (s.ls.length : Int) * 64 - p))) ∧ ρ 43 = .bool bb ∧ ρ 0 = .pointer (some ⟨r, 0, none⟩) ∧ ρ 1 = .int .i64 p ∧ ρ 2 = .int .i64 q ∧ BB = A) ?_ ?_
    · skip
      refine tc_reg ?_; refine tlm ?_; refine tv (o_lss rfl rfl) ?_; refine tlm ?_; refine tl_bool (d := 12) rfl (fun h => ?_) (fun h => ?_)
      · have g12 : (p < 64) := by first | exact of_decide_eq_true h | (have h2 := h; simp at h2; omega) | simpa using h
        refine tk ?_; refine tk ?_; refine tk ?_; refine tv (o_pick_t rfl (by conv => lhs; whnf)) ?_; refine tlm ?_; refine tk ?_; refine tk ?_; refine tv (o_pick_t rfl (by conv => lhs; whnf)) ?_; refine tlm ?_; refine tk ?_; refine tk ?_; refine tk ?_; refine tv (o_pick_t rfl (by conv => lhs; whnf)) ?_; refine tlm ?_; refine tk ?_; refine tk ?_; refine tk ?_; refine tk ?_; refine tk ?_; refine tk ?_; refine tv (o_pick_t rfl (by conv => lhs; whnf)) ?_; refine tlm ?_; refine tk ?_; refine tk ?_; refine tk ?_; refine tk ?_; refine tk ?_; refine tk ?_; refine tk ?_; refine tk ?_; refine tv (o_pick_t rfl (by conv => lhs; whnf)) ?_; refine tl_nil ?_; exact ⟨_, by first | exact (decide_eq_true (by omega)).symm | exact (decide_eq_false (by omega)).symm | (rw [decide_eq_decide]; omega), rfl, rfl, rfl, rfl, rfl⟩
      · have g12 : ¬ (p < 64) := by first | exact of_decide_eq_false h | (have h2 := h; simp at h2; omega) | simpa using h
        refine tlm ?_; refine tv (by first | exact o_remI rfl rfl (by omega) | exact o_rem rfl rfl (by omega)) ?_; refine tv (o_nei rfl rfl) ?_; refine tv (o_pick_f rfl (by conv => lhs; whnf)) ?_; refine tlm ?_; refine tl_bool (d := 17) rfl (fun h => ?_) (fun h => ?_)
        · have g17 : (p < 64 ∨ p % 64 ≠ 0) := by first | exact of_decide_eq_true h | (have h2 := h; simp at h2; omega) | simpa using h
          refine tk ?_; refine tk ?_; refine tv (o_pick_t rfl (by conv => lhs; whnf)) ?_; refine tlm ?_; refine tk ?_; refine tk ?_; refine tk ?_; refine tv (o_pick_t rfl (by conv => lhs; whnf)) ?_; refine tlm ?_; refine tk ?_; refine tk ?_; refine tk ?_; refine tk ?_; refine tk ?_; refine tk ?_; refine tv (o_pick_t rfl (by conv => lhs; whnf)) ?_; refine tlm ?_; refine tk ?_; refine tk ?_; refine tk ?_; refine tk ?_; refine tk ?_; refine tk ?_; refine tk ?_; refine tk ?_; refine tv (o_pick_t rfl (by conv => lhs; whnf)) ?_; refine tl_nil ?_; exact ⟨_, by first | exact (decide_eq_true (by omega)).symm | exact (decide_eq_false (by omega)).symm | (rw [decide_eq_decide]; omega), rfl, rfl, rfl, rfl, rfl⟩
        · have g17 : ¬ (p < 64 ∨ p % 64 ≠ 0) := by first | exact of_decide_eq_false h | (have h2 := h; simp at h2; omega) | simpa using h
          refine tlm ?_; refine tv (o_lss rfl rfl) ?_; refine tv (o_pick_f rfl (by conv => lhs; whnf)) ?_; refine tlm ?_; refine tl_bool (d := 21) rfl (fun h => ?_) (fun h => ?_)
          · have g21 : (p < 64 ∨ p % 64 ≠ 0 ∨ q < 128) := by first | exact of_decide_eq_true h | (have h2 := h; simp at h2; omega) | simpa using h
            refine tk ?_; refine tk ?_; refine tk ?_; refine tv (o_pick_t rfl (by conv => lhs; whnf)) ?_; refine tlm ?_; refine tk ?_; refine tk ?_; refine tk ?_; refine tk ?_; refine tk ?_; refine tk ?_; refine tv (o_pick_t rfl (by conv => lhs; whnf)) ?_; refine tlm ?_; refine tk ?_; refine tk ?_; refine tk ?_; refine tk ?_; refine tk ?_; refine tk ?_; refine tk ?_; refine tk ?_; refine tv (o_pick_t rfl (by conv => lhs; whnf)) ?_; refine tl_nil ?_; exact ⟨_, by first | exact (decide_eq_true (by omega)).symm | exact (decide_eq_false (by omega)).symm | (rw [decide_eq_decide]; omega), rfl, rfl, rfl, rfl, rfl⟩
          · have g21 : ¬ (p < 64 ∨ p % 64 ≠ 0 ∨ q < 128) := by first | exact of_decide_eq_false h | (have h2 := h; simp at h2; omega) | simpa using h
            refine tlm ?_; refine tv (by first | exact o_remI rfl rfl (by omega) | exact o_rem rfl rfl (by omega)) ?_; refine tv (o_nei rfl rfl) ?_; refine tv (o_pick_f rfl (by conv => lhs; whnf)) ?_; refine tlm ?_; refine tl_bool (d := 26) rfl (fun h => ?_) (fun h => ?_)
            · have g26 : (p < 64 ∨ p % 64 ≠ 0 ∨ q < 128 ∨ q % 64 ≠ 0) := by first | exact of_decide_eq_true h | (have h2 := h; simp at h2; omega) | simpa using h
              refine tk ?_; refine tk ?_; refine tk ?_; refine tk ?_; refine tk ?_; refine tk ?_; refine tv (o_pick_t rfl (by conv => lhs; whnf)) ?_; refine tlm ?_; refine tk ?_; refine tk ?_; refine tk ?_; refine tk ?_; refine tk ?_; refine tk ?_; refine tk ?_; refine tk ?_; refine tv (o_pick_t rfl (by conv => lhs; whnf)) ?_; refine tl_nil ?_; exact ⟨_, by first | exact (decide_eq_true (by omega)).symm | exact (decide_eq_false (by omega)).symm | (rw [decide_eq_decide]; omega), rfl, rfl, rfl, rfl, rfl⟩
            · have g26 : ¬ (p < 64 ∨ p % 64 ≠ 0 ∨ q < 128 ∨ q % 64 ≠ 0) := by first | exact of_decide_eq_false h | (have h2 := h; simp at h2; omega) | simpa using h
              refine tlm ?_; refine tlm ?_; refine tv (o_nilCheck rfl) ?_; refine tv (o_fieldAddr (o := 0) Tryz.underlying195 rfl rfl sz3 rfl) ?_; refine tv (o_ldP (a := some ⟨r, 0, none⟩) (i := 0) p3 rfl (by repeat (first | exact hR.d | apply Rs.left)) rfl) ?_; refine tl_env (d := 31) (v := .int .i64 ((s.ls.length : Int) * 64)) (by show Value.int .i64 ((s.ls.length * 64 : Nat) : Int) = _; congr 1) ?_; refine tv (o_gtr rfl rfl) ?_; refine tv (o_pick_f rfl (by conv => lhs; whnf)) ?_; refine tlm ?_; refine tl_bool (d := 34) rfl (fun h => ?_) (fun h => ?_)
              · have g34 : (p < 64 ∨ p % 64 ≠ 0 ∨ q < 128 ∨ q % 64 ≠ 0 ∨ (s.ls.length : Int) * 64 < p) := by first | exact of_decide_eq_true h | (have h2 := h; simp at h2; omega) | simpa using h
                refine tk ?_; refine tk ?_; refine tk ?_; refine tk ?_; refine tk ?_; refine tk ?_; refine tk ?_; refine tk ?_; refine tv (o_pick_t rfl (by conv => lhs; whnf)) ?_; refine tl_nil ?_; exact ⟨_, by first | exact (decide_eq_true (by omega)).symm | exact (decide_eq_false (by omega)).symm | (rw [decide_eq_decide]; omega), rfl, rfl, rfl, rfl, rfl⟩
              · have g34 : ¬ (p < 64 ∨ p % 64 ≠ 0 ∨ q < 128 ∨ q % 64 ≠ 0 ∨ (s.ls.length : Int) * 64 < p) := by first | exact of_decide_eq_false h | (have h2 := h; simp at h2; omega) | simpa using h
                refine tlm ?_; refine tlm ?_; refine tv (o_nilCheck rfl) ?_; refine tv (o_fieldAddr (o := 0) Tryz.underlying195 rfl rfl sz3 rfl) ?_; refine tv (o_ldP (a := some ⟨r, 0, none⟩) (i := 0) p3 rfl (by repeat (first | exact hR.d | apply Rs.left)) rfl) ?_; refine tl_env (d := 39) (v := .int .i64 ((s.ls.length : Int) * 64)) (by show Value.int .i64 ((s.ls.length * 64 : Nat) : Int) = _; congr 1) ?_; refine tlm ?_; refine tv (o_subI rfl rfl (by omega)) ?_; refine tv (o_gtr rfl rfl) ?_; refine tv (o_pick_f rfl (by conv => lhs; whnf)) ?_; refine tl_nil ?_; exact ⟨_, by first | exact (decide_eq_true (by omega)).symm | exact (decide_eq_false (by omega)).symm | (rw [decide_eq_decide]; omega), rfl, rfl, rfl, rfl, rfl⟩
    · intro ρ B hI
      obtain ⟨bb, hbb0, hE43, hE0, hE1, hE2, hBA⟩ := hI
      obtain rfl := hBA.symm
      refine q_then_n ?_; refine tc_env (d := 43) hE43 ?_; refine tc_env (d := 0) hE0 ?_; refine tc_env (d := 1) hE1 ?_; refine tc_env (d := 2) hE2 ?_
      clear hE43 hE0 hE1 hE2
      refine tc_cond rfl (fun h => ?_) (fun h => ?_)
      · exfalso; rw [h] at hbb0; have := of_decide_eq_true hbb0.symm; omega
      · try simp only [lv1, lv2, lv3, lv4, lv5, lv6, Bool.not_true, Bool.not_false] at h
        refine tc_skip ?_; refine q_then_n ?_; refine sr ?_; refine tlm ?_; refine tlm ?_; refine tlm ?_; refine tv (o_bS (l := [_, _, _]) (pv_cons (by conv => lhs; whnf) (pv_cons (by conv => lhs; whnf) (pv_cons (by conv => lhs; whnf) pv_nil))) Tryz.underlying233 z233 (pl233 Tryz.underlying233) rfl) ?_; refine tl_x rfl (o_box rfl rfl) ?_; rintro _ _ ⟨b48, rfl, rfl⟩; refine tla ?_; refine tla ?_; refine nq ?_; refine tc_ret ?_; exact ⟨_, _, res2 rfl rfl rfl, fun _ _ h => h, _, rfl, b48, rfl, rfl⟩
theorem rOpen_ok {A R : SP} {C : SP → SP} {r : Nat} {s : DevS} (hc : Ct A (RDev r s) R C := by repeat (first | with_reducible exact ct_here | apply ct_left)) {p q : Int} (hp : -9223372036854775808 ≤ p ∧ p ≤ 9223372036854775807) (hq : -9223372036854775808 ≤ q ∧ q ≤ 9223372036854775807) (hok : (64 ≤ p ∧ p % 64 = 0 ∧ 128 ≤ q ∧ q % 64 = 0 ∧ p ≤ (s.ls.length : Int) * 64 ∧ q ≤ (s.ls.length : Int) * 64 - p) := by omega) : Fn Tryz.prog 81 #[.pointer (some ⟨r, 0, none⟩), .int .i64 p, .int .i64 q] A (fun v B => ∃ b, v = .tuple #[.pointer (some ⟨b, 0, none⟩), .int .i64 0] ∧ B = A * pt b (cl [.pointer (some ⟨r, 0, none⟩), .int .i64 p, .int .i64 q] 233)) := by
  obtain ⟨rfl, _⟩ := hc
  intro g w hs
  refine (fn_rdevR (fun A lv rls av hR => rOpen_okf A hR hp hq hok) g w hs).mono ?_; rintro e w' ⟨v, B, e1, ⟨X, rfl, b, rfl, rfl⟩, hB⟩; exact ⟨_, _, e1, ⟨b, rfl, rfl⟩, hB⟩
end Go.Vl

namespace Go.Vl
open Go Go.Proofs
theorem cellR0 {R : SP} {r : Nat} {s : DevS} : Cell (R * RDev r s) r 0 (.int .i64 ((s.ls.length * 64 : Nat) : Int)) := fun g w hs => by
  obtain ⟨hw, lv, rls, av, kvs, h1, h2, hs'⟩ := rdev_iff.1 hs
  obtain ⟨b, o, e, h⟩ := (rdevR_of hw h1 hs').d g w hs' 0 _ rfl
  simp only [Option.some.injEq, Addr.mk.injEq, and_true] at e
  obtain ⟨rfl, rfl⟩ := e
  exact h
theorem cellR5 {R : SP} {r : Nat} {s : DevS} : Cell (R * RDev r s) r 5 (.bool s.off) := fun g w hs => by
  obtain ⟨hw, lv, rls, av, kvs, h1, h2, hs'⟩ := rdev_iff.1 hs
  obtain ⟨b, o, e, h⟩ := (rdevR_of hw h1 hs').d g w hs' 5 _ rfl
  simp only [Option.some.injEq, Addr.mk.injEq, and_true] at e
  obtain ⟨rfl, rfl⟩ := e
  exact h
/-- The numbers from q on. -/
def lnK (q k : Nat) : List Int := (List.range k).map fun j => ((q + j : Nat) : Int)
attribute [local irreducible] crk crL crc Sl pt ro Dev RDev imgS recS
theorem Take8R_c {A : SP} {a : Option Addr} {c : Nat} {xs : List Nat} (hr : Rs A a (bys xs) := by repeat (first | assumption | with_reducible exact rs_sl | with_reducible exact rs_pt0 | exact rs_none | apply Rs.left)) (hm : xs.length = 8 := by first | assumption | rfl) (hb : ∀ x ∈ xs, x < 256 := by assumption) :
    Fn Tryz.prog 257 #[.slice a 8 c, .int .i64 0, .int .i64 8] (A) (fun v B => v = .tuple #[.int .u64 ((nm xs : Nat) : Int), .int .i64 0] ∧ A = B) := by
  refine fn_enterW (args := [.slice a 8 c, .int .i64 0, .int .i64 8]) Tryz.func257 rfl Tryz.ntmps257 (by simp) ?_; refine sr ?_; refine tla ?_; refine tla ?_; refine nq ?_; refine tc_seq ?_; refine sr ?_; refine tlm ?_; refine tv (o_lss rfl rfl) ?_; refine tlm ?_; refine tl_bool (d := 12) rfl (fun h => ?_) (fun h => ?_)
  · exfalso; simp at h
  · try simp only [lv1, lv2, lv3, lv4, lv5, lv6, Bool.not_true, Bool.not_false] at h
    refine tlm ?_; refine tlm ?_; refine tv (o_len Tryz.underlying57 rfl) ?_; refine tv (o_gtr rfl rfl) ?_; refine tv (o_pick_f rfl (by conv => lhs; whnf)) ?_; refine tlm ?_; refine tl_bool (d := 18) rfl (fun h => ?_) (fun h => ?_)
    · exfalso; simp at h
    · try simp only [lv1, lv2, lv3, lv4, lv5, lv6, Bool.not_true, Bool.not_false] at h
      refine tlm ?_; refine tv (o_len Tryz.underlying57 rfl) ?_; refine tlm ?_; refine tv (by first | exact o_subI rfl rfl (by omega) | exact o_sub rfl rfl) ?_; refine tlm ?_; refine tv (o_lss rfl rfl) ?_; refine tv (o_pick_f rfl (by conv => lhs; whnf)) ?_; refine nq ?_; refine tc_cond rfl (fun h => ?_) (fun h => ?_)
      · exfalso; simp at h
      · try simp only [lv1, lv2, lv3, lv4, lv5, lv6, Bool.not_true, Bool.not_false] at h
        refine tc_skip ?_; refine q_then_n ?_; refine sr ?_; refine tla ?_; refine nq ?_; refine tc_seq ?_; refine sr ?_; refine tlm ?_; refine tv (by first | exact o_subI rfl rfl (by omega) | exact o_sub rfl rfl) ?_; refine tla ?_; refine nq ?_; refine tc_block ?_; refine tc_loop (fun kk ρ BB => ∃ (i : Nat), (i ≤ 8) ∧ kk = i ∧ ρ 8 = .int .u64 ((nm (xs.drop i) : Nat) : Int) ∧ ρ 9 = .int .i64 ((i : Int) - 1) ∧ ρ 0 = .slice a 8 c ∧ ρ 1 = .int .i64 0 ∧ BB = A) (m := (8)) ?_ ?_
        · exact ⟨8, by omega, rfl, by rw [List.drop_of_length_le (by omega)]; rfl, rfl, rfl, rfl, rfl⟩
        · intro k ρ B hI
          obtain ⟨i, hp0, hkk1, hE8, hE9, hE0, hE1, hBA⟩ := hI
          obtain rfl := hBA.symm
          refine tc_env (d := 8) hE8 ?_; refine tc_env (d := 9) hE9 ?_; refine tc_env (d := 0) hE0 ?_; refine tc_env (d := 1) hE1 ?_
          clear hE8 hE9 hE0 hE1
          refine tc_seq ?_; refine sr ?_; refine tlm ?_; refine tv (o_geq rfl rfl) ?_; refine nq ?_; refine tc_cond rfl (fun h => ?_) (fun h => ?_)
          · have hi : 1 ≤ i := by simp at h; omega
            have hi2 : i - 1 < xs.length := by omega
            have e1 : xs.drop (i - 1) = xs[i - 1] :: xs.drop i := by rw [List.drop_eq_getElem_cons hi2, show i - 1 + 1 = i by omega]
            have hbb := nm_bound (fun x hx => hb x (List.mem_of_mem_drop hx)) (show (xs.drop (i - 1)).length ≤ 8 by rw [List.length_drop]; omega)
            rw [e1, nm_snocr] at hbb
            have hx := hb _ (List.getElem_mem hi2)
            refine tc_skip ?_; refine q_then_n ?_; refine tc_seq ?_; refine tc_block ?_; refine tc_reg ?_; refine tlm ?_; refine tv (o_mulN (b := 256) rfl rfl rfl rfl (by show _ < 18446744073709551616; omega)) ?_; refine tlm ?_; refine tlm ?_; refine tlm ?_; refine tv (by first | exact o_addI rfl rfl (by omega) | exact o_add rfl rfl) ?_; refine tl_env (d := 37) (v := .int .i64 ((i - 1 : Nat) : Int)) (by show Value.int .i64 _ = Value.int .i64 _; congr 1; omega) ?_; refine tv (o_ixP1 Tryz.underlying57 sz5 rfl rfl (by first | omega | (simp only [bys_length, ints_length, wds_length, bos_length, List.length_append, List.length_take, List.length_drop, List.length_singleton]; omega)) (by repeat (first | exact nn_some | with_reducible exact nn_sl (by decide) | exact nn_rs (by assumption) (fun _ => by first | omega | (simp only [bys_length, ints_length, wds_length, bos_length, List.length_append, List.length_take, List.length_drop, List.length_singleton]; omega)) | apply Nn.left))) ?_; refine tv (o_ldP p5 rfl (by repeat (first | assumption | with_reducible exact rs_sl | with_reducible exact rs_pt0 | exact rs_none | apply Rs.left)) (by first | assumption | exact bys_at (by omega) | exact ints_at (by omega) | exact wds_at (by omega) | exact bos_at (by omega) | rfl)) ?_; refine tv (by first | exact o_conv64 Tryz.underlying5 Tryz.underlying174 rfl | exact o_conv Tryz.underlying5 Tryz.underlying174 rfl) ?_
            refine tl_env (d := 40) (v := .int .u64 ((xs[i - 1] : Nat) : Int)) (congrArg (fun z : Nat => Value.int .u64 (z : Int)) (Nat.mod_eq_of_lt (by omega))) ?_; refine tv (o_addN rfl rfl rfl (by show _ < 18446744073709551616; omega)) ?_; refine tla ?_; refine tl_nil ?_; refine q_block_n (q_then_n ?_); refine tc_reg ?_; refine tlm ?_; refine tv (by first | exact o_subI rfl rfl (by omega) | exact o_sub rfl rfl) ?_; refine tla ?_; refine nq ?_; exact ⟨_, by omega, i - 1, by omega, rfl, by show Value.int .u64 _ = Value.int .u64 _; rw [e1, nm_snocr]; congr 1; omega, by show Value.int .i64 _ = _; congr 1; omega, rfl, rfl, rfl⟩
          · try simp only [lv1, lv2, lv3, lv4, lv5, lv6, Bool.not_true, Bool.not_false] at h
            refine tc_exit ?_; refine q_then_e (q_then_e (q_block_x (q_then_n ?_))); refine sr ?_; refine tlm ?_; refine tla ?_; refine tla ?_; refine nq ?_; refine tc_ret ?_
            obtain rfl : i = 0 := by simp at h; omega
            exact ⟨.tuple #[.int .u64 ((nm (xs.drop 0) : Nat) : Int), .int .i64 0], A, res2 rfl rfl rfl, Dr.sat (by repeat (first | with_reducible exact dr_refl | apply dr_keep | apply dr_drop)), by rw [List.drop_zero], rfl⟩
theorem rnum_c {A R : SP} {C : SP → SP} {r : Nat} {s : DevS} (hc : Ct A (RDev r s) R C := by repeat (first | with_reducible exact ct_here | apply ct_left)) {bk at_ sz : Nat} (hl : Has R bk (cl (lcs11 r at_ sz) 233) := by (repeat (first | assumption | with_reducible exact has_here | with_reducible exact has_pt | apply has_left))) {q : Nat} (ho : s.off = false := by assumption) (hq : q + 8 ≤ s.ls.length * 64 := by omega) :
    Fn Tryz.prog 220 #[.pointer (some ⟨bk, 0, none⟩), .int .i64 (q : Nat)] (A) (fun v B => v = .int .u64 ((nm (((imgS s).drop q).take 8) : Nat) : Int) ∧ A = B) := by
  refine fn_enterW (args := [.pointer (some ⟨bk, 0, none⟩), .int .i64 (q : Nat)]) Tryz.func220 rfl Tryz.ntmps220 (by simp) ?_; refine tc_have (fun _ _ h => wfR_ct hc h) fun hw => ?_
  have htop := hw.top
  have hpos := hw.pos
  obtain ⟨rfl, hC⟩ := hc
  have hAC : ∀ g w, sat g w (R * RDev r s) → sat g w (C (RDev r s)) := fun g w h => by rw [hC]; exact h
  have hil := imgS_len hw
  have hol : (((imgS s).drop q).take 8).length = 8 := by rw [List.length_take, List.length_drop, hil]; omega
  have hob : ∀ x ∈ ((imgS s).drop q).take 8, x < 256 := img_sub
  refine sr ?_; refine tla ?_; refine nq ?_; refine sr ?_; refine tlm ?_; refine tv (o_nilCheck rfl) ?_; refine tv (o_fieldAddr (o := 0) Tryz.underlying233 rfl rfl sz48 rfl) ?_; refine tv (o_load p48 rfl (by repeat (first | assumption | apply has_left)) rfl) ?_; refine tlm ?_; refine tl_c rfl (o_call bd174 rfl (rLoad_c (s := s) (p := q) (m := 8))) ?_; rintro _ _ ⟨a15, c15, rfl, hc15, rfl⟩; refine tlm ?_; refine tv (o_extract rfl rfl) ?_; refine tv (o_extract rfl rfl) ?_; refine tla ?_; refine tla ?_; refine nq ?_; refine sr ?_; refine tlm ?_; refine tl_c rfl (o_call bd257 rfl (Take8R_c (xs := ((imgS s).drop q).take 8))) ?_; rintro _ _ ⟨rfl, rfl⟩; refine tlm ?_; refine tv (o_extract rfl rfl) ?_; refine tv (o_extract rfl rfl) ?_; refine tla ?_; refine tla ?_; refine nq ?_; refine sr ?_; refine tlm ?_; refine tla ?_; refine nq ?_; refine tc_ret ?_; exact ⟨_, _, res1 rfl rfl, Dr.sat (by repeat (first | with_reducible exact dr_refl | apply dr_keep | apply dr_drop)), rfl, rfl⟩
theorem rMay11_c {A R : SP} {C : SP → SP} {r : Nat} {s : DevS} (hc : Ct A (RDev r s) R C := by repeat (first | with_reducible exact ct_here | apply ct_left)) {bk at_ sz : Nat} (hl : Has A bk (cl (lcs11 r at_ sz) 233) := by (repeat (first | assumption | with_reducible exact has_here | with_reducible exact has_pt | apply has_left))) {x : Int × Int} (hx : XW x := by assumption) (hlw : LogW (s.ls.length * 64) at_ sz := by assumption) :
    Fn Tryz.prog 258 #[.pointer (some ⟨bk, 0, none⟩), .agg (xcs x).toArray] (A) (fun r_ B => r_ = .bool (mayX (s.ls.length * 64) at_ sz x) ∧ A = B) := by
  refine fn_enterW (args := [.pointer (some ⟨bk, 0, none⟩), .agg (xcs x).toArray]) Tryz.func258 rfl Tryz.ntmps258 (by simp) ?_; refine tc_have (fun _ _ h => wfR_ct hc h) fun hw => ?_
  have htop := hw.top
  have hpos := hw.pos
  obtain ⟨rfl, hC⟩ := hc
  obtain ⟨⟨hx1, hx2⟩, ⟨hx3, hx4⟩⟩ := hx
  obtain ⟨w1, w2, w3, w4, w5⟩ := hlw
  refine sr ?_; refine tl_x rfl (o_box rfl rfl) ?_; rintro _ _ ⟨b3, rfl, rfl⟩; refine tla ?_; refine nq ?_; refine tc_seq ?_; refine tc_seq ?_; refine tc_cut (fun ρ BB => ∃ (bb : Bool), (bb = decide (¬ (1 ≤ x.2 ∧ 64 ≤ x.1 ∧ x.1 ≤ (s.ls.length : Int) * 64 ∧ x.2 ≤ (s.ls.length : Int) * 64 - x.1))) ∧ ρ 39 = .bool bb ∧ ρ 0 = .pointer (some ⟨bk, 0, none⟩) ∧ ρ 3 = .pointer (some ⟨b3, 0, none⟩) ∧ BB = R * RDev r s * pt b3 (cl (xcs x) 162)) ?_ ?_
  · skip
    refine tc_regq mo (by kernel_rfl) ?_; refine ql_v rfl (o_fieldAddr (o := 1) Tryz.underlying162 rfl rfl sz3 rfl) ?_; refine ql_v rfl (by first | exact o_load p3 rfl (by repeat (first | with_reducible exact has_here | with_reducible exact has_pt | apply has_left)) rfl | exact o_loadC p3 rfl (by assumption)) ?_; refine ql_v rfl (o_lss rfl rfl) ?_; refine ql_v rfl (o_move (by conv => lhs; whnf)) ?_; refine ql_bool (d := 8) rfl (fun h => ?_) (fun h => ?_)
    · have g8 : (x.2 < 1) := by first | exact of_decide_eq_true h | (have h2 := h; simp at h2; omega) | simpa using h
      refine ql_skip rfl ?_; refine ql_skip rfl ?_; refine ql_skip rfl ?_; refine ql_v rfl (o_pick_t rfl (by conv => lhs; whnf)) ?_; refine ql_v rfl (o_move (by conv => lhs; whnf)) ?_; refine ql_skip rfl ?_; refine ql_skip rfl ?_; refine ql_skip rfl ?_; refine ql_skip rfl ?_; refine ql_skip rfl ?_; refine ql_skip rfl ?_; refine ql_skip rfl ?_; refine ql_skip rfl ?_; refine ql_skip rfl ?_; refine ql_skip rfl ?_; refine ql_v rfl (o_pick_t rfl (by conv => lhs; whnf)) ?_; refine ql_v rfl (o_move (by conv => lhs; whnf)) ?_; refine ql_skip rfl ?_; refine ql_skip rfl ?_; refine ql_skip rfl ?_; refine ql_skip rfl ?_; refine ql_skip rfl ?_; refine ql_skip rfl ?_; refine ql_skip rfl ?_; refine ql_skip rfl ?_; refine ql_skip rfl ?_; refine ql_skip rfl ?_; refine ql_skip rfl ?_; refine ql_skip rfl ?_; refine ql_skip rfl ?_; refine ql_v rfl (o_pick_t rfl (by conv => lhs; whnf)) ?_; refine ql_nil ?_; exact ⟨_, by first | exact (decide_eq_true (by omega)).symm | exact (decide_eq_false (by omega)).symm | (rw [decide_eq_decide]; omega), rfl, rfl, rfl, rfl⟩
    · have g8 : ¬ (x.2 < 1) := by first | exact of_decide_eq_false h | (have h2 := h; simp at h2; omega) | simpa using h
      refine ql_v rfl (o_fieldAddr (o := 0) Tryz.underlying162 rfl rfl sz3 rfl) ?_; refine ql_v rfl (by first | exact o_load p3 rfl (by repeat (first | with_reducible exact has_here | with_reducible exact has_pt | apply has_left)) rfl | exact o_loadC p3 rfl (by assumption)) ?_; refine ql_v rfl (o_lss rfl rfl) ?_; refine ql_v rfl (o_pick_f rfl (by conv => lhs; whnf)) ?_; refine ql_v rfl (o_move (by conv => lhs; whnf)) ?_; refine ql_bool (d := 13) rfl (fun h => ?_) (fun h => ?_)
      · have g13 : (x.2 < 1 ∨ x.1 < 64) := by first | exact of_decide_eq_true h | (have h2 := h; simp at h2; omega) | simpa using h
        refine ql_skip rfl ?_; refine ql_skip rfl ?_; refine ql_skip rfl ?_; refine ql_skip rfl ?_; refine ql_skip rfl ?_; refine ql_skip rfl ?_; refine ql_skip rfl ?_; refine ql_skip rfl ?_; refine ql_skip rfl ?_; refine ql_skip rfl ?_; refine ql_v rfl (o_pick_t rfl (by conv => lhs; whnf)) ?_; refine ql_v rfl (o_move (by conv => lhs; whnf)) ?_; refine ql_skip rfl ?_; refine ql_skip rfl ?_; refine ql_skip rfl ?_; refine ql_skip rfl ?_; refine ql_skip rfl ?_; refine ql_skip rfl ?_; refine ql_skip rfl ?_; refine ql_skip rfl ?_; refine ql_skip rfl ?_; refine ql_skip rfl ?_; refine ql_skip rfl ?_; refine ql_skip rfl ?_; refine ql_skip rfl ?_; refine ql_v rfl (o_pick_t rfl (by conv => lhs; whnf)) ?_; refine ql_nil ?_; exact ⟨_, by first | exact (decide_eq_true (by omega)).symm | exact (decide_eq_false (by omega)).symm | (rw [decide_eq_decide]; omega), rfl, rfl, rfl, rfl⟩
      · have g13 : ¬ (x.2 < 1 ∨ x.1 < 64) := by first | exact of_decide_eq_false h | (have h2 := h; simp at h2; omega) | simpa using h
        refine ql_v rfl (o_fieldAddr (o := 0) Tryz.underlying162 rfl rfl sz3 rfl) ?_; refine ql_v rfl (by first | exact o_load p3 rfl (by repeat (first | with_reducible exact has_here | with_reducible exact has_pt | apply has_left)) rfl | exact o_loadC p3 rfl (by assumption)) ?_; refine ql_v rfl (o_move (by conv => lhs; whnf)) ?_; refine ql_v rfl (o_nilCheck rfl) ?_; refine ql_v rfl (o_fieldAddr (o := 0) Tryz.underlying233 rfl rfl sz48 rfl) ?_; refine ql_v rfl (o_load p48 rfl (by repeat (first | assumption | apply has_left)) rfl) ?_; refine ql_v rfl (o_nilCheck rfl) ?_; refine ql_v rfl (o_fieldAddr (o := 0) Tryz.underlying195 rfl rfl sz3 rfl) ?_; refine ql_v rfl (o_loadC (b := r) p3 rfl (by repeat (first | exact cellR0 | apply Cell.left))) ?_; refine ql_v rfl (o_gtr rfl rfl) ?_; refine ql_v rfl (o_pick_f rfl (by conv => lhs; whnf)) ?_; refine ql_v rfl (o_move (by conv => lhs; whnf)) ?_; refine ql_bool (d := 25) rfl (fun h => ?_) (fun h => ?_)
        · have g25 : (x.2 < 1 ∨ x.1 < 64 ∨ (s.ls.length : Int) * 64 < x.1) := by first | exact of_decide_eq_true h | (have h2 := h; simp at h2; omega) | simpa using h
          refine ql_skip rfl ?_; refine ql_skip rfl ?_; refine ql_skip rfl ?_; refine ql_skip rfl ?_; refine ql_skip rfl ?_; refine ql_skip rfl ?_; refine ql_skip rfl ?_; refine ql_skip rfl ?_; refine ql_skip rfl ?_; refine ql_skip rfl ?_; refine ql_skip rfl ?_; refine ql_skip rfl ?_; refine ql_skip rfl ?_; refine ql_v rfl (o_pick_t rfl (by conv => lhs; whnf)) ?_; refine ql_nil ?_; exact ⟨_, by first | exact (decide_eq_true (by omega)).symm | exact (decide_eq_false (by omega)).symm | (rw [decide_eq_decide]; omega), rfl, rfl, rfl, rfl⟩
        · have g25 : ¬ (x.2 < 1 ∨ x.1 < 64 ∨ (s.ls.length : Int) * 64 < x.1) := by first | exact of_decide_eq_false h | (have h2 := h; simp at h2; omega) | simpa using h
          refine ql_v rfl (o_fieldAddr (o := 1) Tryz.underlying162 rfl rfl sz3 rfl) ?_; refine ql_v rfl (by first | exact o_load p3 rfl (by repeat (first | with_reducible exact has_here | with_reducible exact has_pt | apply has_left)) rfl | exact o_loadC p3 rfl (by assumption)) ?_; refine ql_v rfl (o_move (by conv => lhs; whnf)) ?_; refine ql_v rfl (o_nilCheck rfl) ?_; refine ql_v rfl (o_fieldAddr (o := 0) Tryz.underlying233 rfl rfl sz48 rfl) ?_; refine ql_v rfl (o_load p48 rfl (by repeat (first | assumption | apply has_left)) rfl) ?_; refine ql_v rfl (o_nilCheck rfl) ?_; refine ql_v rfl (o_fieldAddr (o := 0) Tryz.underlying195 rfl rfl sz3 rfl) ?_; refine ql_v rfl (o_loadC (b := r) p3 rfl (by repeat (first | exact cellR0 | apply Cell.left))) ?_; refine ql_v rfl (o_fieldAddr (o := 0) Tryz.underlying162 rfl rfl sz3 rfl) ?_; refine ql_v rfl (by first | exact o_load p3 rfl (by repeat (first | with_reducible exact has_here | with_reducible exact has_pt | apply has_left)) rfl | exact o_loadC p3 rfl (by assumption)) ?_; refine ql_v rfl (o_subI rfl rfl (by omega)) ?_; refine ql_v rfl (o_gtr rfl rfl) ?_; refine ql_v rfl (o_pick_f rfl (by conv => lhs; whnf)) ?_; refine ql_nil ?_; exact ⟨_, by first | exact (decide_eq_true (by omega)).symm | exact (decide_eq_false (by omega)).symm | (rw [decide_eq_decide]; omega), rfl, rfl, rfl, rfl⟩
  · intro ρ B hI
    obtain ⟨bb, hbb0, hE39, hE0, hE3, rfl⟩ := hI
    refine q_then_n ?_; refine tc_env (d := 39) hE39 ?_; refine tc_env (d := 0) hE0 ?_; refine tc_env (d := 3) hE3 ?_
    clear hE39 hE0 hE3
    refine tc_cond rfl (fun h => ?_) (fun h => ?_)
    · have hf := of_decide_eq_true (show decide (¬ (1 ≤ x.2 ∧ 64 ≤ x.1 ∧ x.1 ≤ (s.ls.length : Int) * 64 ∧ x.2 ≤ (s.ls.length : Int) * 64 - x.1)) = true by rw [← hbb0]; exact h)
      refine sr ?_; refine tla ?_; refine nq ?_; refine tc_ret ?_; refine q_then_r ?_
      have e : mayX (s.ls.length * 64) at_ sz x = false := decide_eq_false (by omega)
      rw [e]
      exact ⟨.bool false, _, res1 rfl rfl, Dr.sat (by repeat (first | with_reducible exact dr_refl | apply dr_keep | apply dr_drop)), rfl, rfl⟩
    · have hf : (1 ≤ x.2 ∧ 64 ≤ x.1 ∧ x.1 ≤ (s.ls.length : Int) * 64 ∧ x.2 ≤ (s.ls.length : Int) * 64 - x.1) := by have h9 := of_decide_eq_false (show decide (¬ (1 ≤ x.2 ∧ 64 ≤ x.1 ∧ x.1 ≤ (s.ls.length : Int) * 64 ∧ x.2 ≤ (s.ls.length : Int) * 64 - x.1)) = false by rw [← hbb0]; exact h); omega
      refine tc_skip ?_; refine q_then_n ?_; refine tc_seq ?_; refine tc_regq mo (by kernel_rfl) ?_; refine ql_v rfl (o_fieldAddr (o := 0) Tryz.underlying162 rfl rfl sz3 rfl) ?_; refine ql_v rfl (by first | exact o_load p3 rfl (by repeat (first | with_reducible exact has_here | with_reducible exact has_pt | apply has_left)) rfl | exact o_loadC p3 rfl (by assumption)) ?_; refine ql_v rfl (o_fieldAddr (o := 1) Tryz.underlying162 rfl rfl sz3 rfl) ?_; refine ql_v rfl (by first | exact o_load p3 rfl (by repeat (first | with_reducible exact has_here | with_reducible exact has_pt | apply has_left)) rfl | exact o_loadC p3 rfl (by assumption)) ?_; refine ql_v rfl (o_addI rfl rfl (by omega)) ?_; refine ql_v rfl (o_move (by conv => lhs; whnf)) ?_; refine ql_v rfl (o_nilCheck rfl) ?_; refine ql_v rfl (o_fieldAddr (o := 1) Tryz.underlying233 rfl rfl sz3 rfl) ?_; refine ql_v rfl (o_load p3 rfl (by repeat (first | assumption | apply has_left)) rfl) ?_; refine ql_v rfl (o_leq rfl rfl) ?_; refine ql_v rfl (o_move (by conv => lhs; whnf)) ?_; refine ql_bool (d := 50) rfl (fun h => ?_) (fun h => ?_)
      · have g50 : (x.1 + x.2 ≤ at_) := by first | exact of_decide_eq_true h | (have h2 := h; simp at h2; omega) | simpa using h
        refine ql_skip rfl ?_; refine ql_skip rfl ?_; refine ql_skip rfl ?_; refine ql_skip rfl ?_; refine ql_skip rfl ?_; refine ql_skip rfl ?_; refine ql_skip rfl ?_; refine ql_skip rfl ?_; refine ql_skip rfl ?_; refine ql_skip rfl ?_; refine ql_skip rfl ?_; refine ql_skip rfl ?_; refine ql_v rfl (o_pick_t rfl (by conv => lhs; whnf)) ?_; refine ql_v rfl (o_assign (by conv => lhs; whnf)) ?_; refine ql_nil ?_; refine q_then_n ?_; refine tc_ret ?_
        have e : ∀ b, b = decide (x.1 + x.2 ≤ at_ ∨ ((at_ + sz : Nat) : Int) ≤ x.1) → mayX (s.ls.length * 64) at_ sz x = b := fun b hb => by rw [hb]; unfold mayX; rw [decide_eq_decide]; omega
        exact ⟨.bool (mayX (s.ls.length * 64) at_ sz x), _, res1 rfl (congrArg Value.bool (e _ (by first | exact (decide_eq_true (by omega)).symm | exact (decide_eq_false (by omega)).symm | (rw [decide_eq_decide]; omega)))).symm, Dr.sat (by repeat (first | with_reducible exact dr_refl | apply dr_keep | apply dr_drop)), rfl, rfl⟩
      · have g50 : ¬ (x.1 + x.2 ≤ at_) := by first | exact of_decide_eq_false h | (have h2 := h; simp at h2; omega) | simpa using h
        refine ql_v rfl (o_fieldAddr (o := 0) Tryz.underlying162 rfl rfl sz3 rfl) ?_; refine ql_v rfl (by first | exact o_load p3 rfl (by repeat (first | with_reducible exact has_here | with_reducible exact has_pt | apply has_left)) rfl | exact o_loadC p3 rfl (by assumption)) ?_; refine ql_v rfl (o_move (by conv => lhs; whnf)) ?_; refine ql_v rfl (o_nilCheck rfl) ?_; refine ql_v rfl (o_fieldAddr (o := 1) Tryz.underlying233 rfl rfl sz3 rfl) ?_; refine ql_v rfl (o_load p3 rfl (by repeat (first | assumption | apply has_left)) rfl) ?_; refine ql_v rfl (o_move (by conv => lhs; whnf)) ?_; refine ql_v rfl (o_nilCheck rfl) ?_; refine ql_v rfl (o_fieldAddr (o := 2) Tryz.underlying233 rfl rfl sz3 rfl) ?_; refine ql_v rfl (o_load p3 rfl (by repeat (first | assumption | apply has_left)) rfl) ?_; refine ql_v rfl (o_addI rfl rfl (by omega)) ?_; refine ql_v rfl (o_geq rfl rfl) ?_; refine ql_v rfl (o_pick_f rfl (by conv => lhs; whnf)) ?_; refine ql_v rfl (o_assign (by conv => lhs; whnf)) ?_; refine ql_nil ?_; refine q_then_n ?_; refine tc_ret ?_
        have e : ∀ b, b = decide (x.1 + x.2 ≤ at_ ∨ ((at_ + sz : Nat) : Int) ≤ x.1) → mayX (s.ls.length * 64) at_ sz x = b := fun b hb => by rw [hb]; unfold mayX; rw [decide_eq_decide]; omega
        exact ⟨.bool (mayX (s.ls.length * 64) at_ sz x), _, res1 rfl (congrArg Value.bool (e _ (by first | exact (decide_eq_true (by omega)).symm | exact (decide_eq_false (by omega)).symm | (rw [decide_eq_decide]; omega)))).symm, Dr.sat (by repeat (first | with_reducible exact dr_refl | apply dr_keep | apply dr_drop)), rfl, rfl⟩
end Go.Vl

namespace Go.Vl
open Go Go.Proofs
theorem Three_j {A : SP} {a1 a2 a3 : Option Addr} {m1 m2 m3 c1 c2 c3 b : Nat} {xs ys zs : List Nat} {E : TypeId} (h1 : Rs A a1 (bys xs)) (h2 : Rs A a2 (bys ys)) (h3 : Rs A a3 (bys zs)) (e1 : xs.length = m1) (e2 : ys.length = m2) (e3 : zs.length = m3) (hl : m1 + m2 + m3 ≤ 17592186044416) :
    Fn Tryz.prog 234 #[.slice (some ⟨b, 0, none⟩) 3 3] (A * pt b (cl [.slice a1 m1 c1, .slice a2 m2 c2, .slice a3 m3 c3] E)) (fun r B => ∃ a c, r = .slice a (m1 + m2 + m3) c ∧ m1 + m2 + m3 ≤ c ∧ B = A * pt b (cl [.slice a1 m1 c1, .slice a2 m2 c2, .slice a3 m3 c3] E) * Sl 1 (.slice a (m1 + m2 + m3) c) (m1 + m2 + m3) (bys (xs ++ ys ++ zs))) := by
  subst e1 e2 e3
  refine fn_rs (xs := [.slice a1 xs.length c1, .slice a2 ys.length c2, .slice a3 zs.length c3]) rs_pt0 fun hr => ?_; refine fn_rs h1.left fun h1 => fn_rs h2.left fun h2 => fn_rs h3.left fun h3 => ?_
  have key := JoinN_f (A * pt b (cl [.slice a1 xs.length c1, .slice a2 ys.length c2, .slice a3 zs.length c3] E)) (some ⟨b, 0, none⟩) 3 3 [xs, ys, zs] ⟨_, rfl, hr, fun i hi => by
    match i, hi with
    | 0, _ => exact ⟨a1, c1, rfl, h1⟩
    | 1, _ => exact ⟨a2, c2, rfl, h2⟩
    | 2, _ => exact ⟨a3, c3, rfl, h3⟩⟩ (by simp; omega) (by simp) rfl
  have e : ([xs, ys, zs] : List (List Nat)).flatten = xs ++ ys ++ zs := by simp
  rw [e] at key
  have e3 : (xs ++ ys ++ zs).length = xs.length + ys.length + zs.length := by simp [Nat.add_assoc]
  rw [e3] at key
  exact fn_sl key
theorem room_sub {at_ sz p k : Nat} {s : DevS} {room : List Nat} (hroom : roomS at_ sz s = room) (h : p + k ≤ sz - 64) : ((imgS s).drop (at_ + 64 + p)).take k = (room.drop p).take k := by
  rw [← hroom]; unfold roomS
  rw [List.drop_take, List.drop_drop, List.take_take, Nat.min_eq_left (by omega)]
theorem may_big2 {n at_ sz w m : Nat} (h : n < w ∨ n < m) : mayX n at_ sz ((w : Int), (m : Int)) = false := decide_eq_false (by show ¬ ((1 : Int) ≤ (m : Int) ∧ (64 : Int) ≤ (w : Int) ∧ (w : Int) + (m : Int) ≤ (n : Int) ∧ _); omega)
theorem rnd_small {m : Nat} (h : m ≤ 4194304) : rndS m = (((up8 m : Nat) : Int), 0) := by
  unfold rndS; have : pad8 m < 8 := (by unfold pad8; omega); rw [if_neg (by omega)]
attribute [local irreducible] crk crL crc Sl pt ro Dev RDev imgS recS
theorem rRec_c {A : SP} {a : Option Addr} {c m p : Nat} {xs : List Nat} (hr : Rs A a (bys xs) := by repeat (first | assumption | with_reducible exact rs_sl | with_reducible exact rs_pt0 | exact rs_none | apply Rs.left)) (hm : xs.length = m := by first | assumption | rfl) (hb : ∀ x ∈ xs, x < 256 := by assumption) (hp : p < 9223372036854775808 := by omega) (hml : m ≤ 549755813888 := by omega) :
    Fn Tryz.prog 260 #[.int .i64 (p : Nat), .slice a m c] (A) (fun r B => ∃ a2 c2, r = .slice a2 (24 + up8 m) c2 ∧ 24 + up8 m ≤ c2 ∧ B = A * Sl 1 (.slice a2 (24 + up8 m) c2) (24 + up8 m) (bys (recS p xs))) := by
  refine fn_enterW (args := [.int .i64 (p : Nat), .slice a m c]) Tryz.func260 rfl Tryz.ntmps260 (by simp) ?_
  obtain ⟨Z, hZ⟩ : ∃ Z, crc 0 (recH p m ++ xs) = Z := ⟨_, rfl⟩
  have hZb : ∀ x ∈ recH p m ++ xs, x < 256 := fun x hx => by rcases List.mem_append.1 hx with h1 | h1; exact recH_b _ _ x h1; exact hb x h1
  have hZl : Z < 4294967296 := hZ ▸ crc_lt (by decide) hZb
  obtain ⟨Y, hY⟩ : ∃ Y, recH p m ++ le 8 Z ++ xs = Y := ⟨_, rfl⟩
  have hYl : Y.length = 24 + m := by rw [← hY, List.length_append, List.length_append, recH_len, le_length, hm]
  have hYr : recS p xs = Y ++ List.replicate (pad8 m) 0 := by rw [← hY, ← hZ, ← hm]; exact recS_eq _ _
  refine sr ?_; refine tla ?_; refine nq ?_; refine sr ?_; refine tlm ?_; refine tv (by first | exact o_conv64 Tryz.underlying3 Tryz.underlying174 rfl | exact o_conv Tryz.underlying3 Tryz.underlying174 rfl) ?_; refine tl_env (d := 9) (v := .int .u64 ((p : Nat) : Int)) (congrArg (fun z : Nat => Value.int .u64 (z : Int)) (Nat.mod_eq_of_lt (by omega))) ?_; refine tl_c rfl (o_call bd235 rfl (Little_c (v := p) (n := 8))) ?_; rintro _ _ ⟨a10, c10, rfl, hc10, rfl⟩; refine tlm ?_; refine tv (o_len Tryz.underlying57 rfl) ?_; refine tv (by first | exact o_conv64 Tryz.underlying3 Tryz.underlying174 rfl | exact o_conv Tryz.underlying3 Tryz.underlying174 rfl) ?_; refine tl_env (d := 13) (v := .int .u64 ((m : Nat) : Int)) (congrArg (fun z : Nat => Value.int .u64 (z : Int)) (Nat.mod_eq_of_lt (by omega))) ?_; refine tl_c rfl (o_call bd235 rfl (Little_c (v := m) (n := 8))) ?_; rintro _ _ ⟨a14, c14, rfl, hc14, rfl⟩; refine tl_c rfl (o_call bd278 rfl (Two_c (xs := le 8 p) (ys := le 8 m) (h1 := (by repeat (first | with_reducible exact rs_sl | assumption | apply Rs.left))) (h2 := (by repeat (first | with_reducible exact rs_sl | assumption | apply Rs.left))) (e1 := le_length 8 p) (e2 := le_length 8 m))) ?_; rintro _ _ ⟨a15, c15, rfl, hc15, rfl⟩; refine tla ?_; refine nq ?_; refine sr ?_; refine tlm ?_; refine tlm ?_; refine tl_c rfl (o_call bd278 rfl (Two_c (xs := le 8 p ++ le 8 m) (ys := xs) (h1 := (by repeat (first | with_reducible exact rs_sl | assumption | apply Rs.left))) (h2 := (by repeat (first | with_reducible exact rs_sl | assumption | apply Rs.left))) (e1 := by rw [List.length_append, le_length, le_length]) (e2 := hm))) ?_
  rintro _ _ ⟨a18, c18, rfl, hc18, rfl⟩; refine tl_c rfl (o_call bd279 rfl (SumR_c (xs := le 8 p ++ le 8 m ++ xs) (hr := (by repeat (first | with_reducible exact rs_sl | assumption | apply Rs.left))) (hm := by rw [List.length_append, List.length_append, le_length, le_length, hm]) (hb := hZb))) ?_; rintro _ _ ⟨rfl, rfl⟩; refine tl_env (d := 19) (v := .int .u32 ((Z : Nat) : Int)) (by show Value.int .u32 ((crc 0 (recH p m ++ xs) : Nat) : Int) = _; rw [hZ]) ?_; refine tla ?_; refine nq ?_; refine sr ?_; refine tlm ?_; refine tlm ?_; refine tv (by first | exact o_conv64 Tryz.underlying32 Tryz.underlying174 rfl | exact o_conv Tryz.underlying32 Tryz.underlying174 rfl) ?_; refine tl_env (d := 22) (v := .int .u64 ((Z : Nat) : Int)) (congrArg (fun z : Nat => Value.int .u64 (z : Int)) (Nat.mod_eq_of_lt (by omega))) ?_; refine tl_c rfl (o_call bd235 rfl (Little_c (v := Z) (n := 8))) ?_; rintro _ _ ⟨a23, c23, rfl, hc23, rfl⟩; refine tlm ?_; refine tl_x rfl (o_buildSliceL (k := 1) (vs := [.slice a15 (8 + 8) c15, .slice a23 8 c23, .slice a m c]) (l := [.slice a15 (8 + 8) c15, .slice a23 8 c23, .slice a m c]) Tryz.underlying41 sz57 z57 rfl rfl (by decide) (by decide) (by intro v hv; simp at hv; rcases hv with rfl | rfl | rfl <;> rfl) rfl) ?_; rintro _ _ ⟨b25, rfl, rfl⟩; refine tl_c rfl (o_call bd234 rfl (Three_j (xs := le 8 p ++ le 8 m) (ys := le 8 Z) (zs := xs) (h1 := (by repeat (first | with_reducible exact rs_sl | assumption | apply Rs.left))) (h2 := (by repeat (first | with_reducible exact rs_sl | assumption | apply Rs.left))) (h3 := (by repeat (first | with_reducible exact rs_sl | assumption | apply Rs.left))) (e1 := by rw [List.length_append, le_length, le_length]) (e2 := le_length 8 Z) (e3 := hm) (hl := by omega))) ?_
  rintro _ _ ⟨a26, c26, rfl, hc26, rfl⟩; refine tla ?_; refine nq ?_; refine tc_seq ?_; refine tc_block ?_; refine tc_pre (A' := A * Sl 1 (.slice a26 (24 + m + 0) c26) (24 + m + 0) (bys (Y ++ List.replicate 0 0))) (fun g w h => by have h2 := Dr.sat (A' := A * Sl 1 (.slice a26 (8 + 8 + 8 + m) c26) (8 + 8 + 8 + m) (bys (le 8 p ++ le 8 m ++ le 8 Z ++ xs))) (by repeat (first | with_reducible exact dr_refl | apply dr_keep | apply dr_drop)) g w h; rw [show le 8 p ++ le 8 m ++ le 8 Z ++ xs = Y from hY] at h2; rw [show 24 + m + 0 = 8 + 8 + 8 + m by omega, List.replicate_zero, List.append_nil]; exact h2) ?_; refine tc_loop (fun kk ρ BB => ∃ (i : Nat) (a5 : Option Addr) (c5 : Nat), (i ≤ pad8 m) ∧ (24 + m + i ≤ c5) ∧ kk = pad8 m - i ∧ ρ 7 = .slice a5 (24 + m + i) c5 ∧ Dr BB (A * Sl 1 (.slice a5 (24 + m + i) c5) (24 + m + i) (bys (Y ++ List.replicate i 0)))) (m := pad8 m - (0)) ?_ ?_
  · exact ⟨0, a26, c26, by omega, by omega, rfl, by rw [show 24 + m + 0 = 8 + 8 + 8 + m by omega]; rfl, (by repeat (first | with_reducible exact dr_refl | apply dr_keep | apply dr_drop))⟩
  · intro k ρ B hI
    obtain ⟨i, a5, c5, hp0, hp1, hkk1, hE7, hBA⟩ := hI
    refine tc_pre hBA.sat ?_
    clear hBA
    refine tc_env (d := 7) hE7 ?_
    clear hE7
    refine tc_seq ?_; refine sr ?_; refine tlm ?_; refine tv (o_len Tryz.underlying57 rfl) ?_; refine tv (o_remN (b := 8) rfl rfl (by decide)) ?_; refine tl_env (d := 29) (v := .int .i64 (((24 + m + i) % 8 : Nat) : Int)) (by first | rfl | (show Value.int .i64 _ = _; congr 1; omega)) ?_; refine tv (o_nei rfl rfl) ?_; refine nq ?_; refine tc_cond rfl (fun h => ?_) (fun h => ?_)
    · have hi : i < pad8 m := by have h9 : (24 + m + i) % 8 ≠ 0 := (by first | omega | (simp at h; omega)); unfold pad8 at *; omega
      have hi8 : i < 8 := by have : pad8 m < 8 := (by unfold pad8; omega); omega
      refine tc_skip ?_; refine q_then_n ?_; refine tc_block ?_; refine tc_reg ?_; refine tlm ?_; refine tl_x rfl (o_buildSliceL (k := 1) (vs := bys [0]) (l := bys [0]) Tryz.underlying57 sz5 z5 rfl rfl (by decide) (by decide) (by intro v hv; simp only [bys, b8, List.map_cons, List.map_nil, List.mem_cons, List.not_mem_nil, or_false] at hv; rcases hv with rfl; rfl) rfl) ?_; rintro _ _ ⟨b32, rfl, rfl⟩; refine tl_x rfl (o_apB Tryz.underlying57 Tryz.underlying57 sz5 by5 z5 rfl (by decide) (by decide) rfl rfl rfl (by repeat (first | with_reducible exact ct_here | apply ct_left)) rfl rfl (by omega) (show _ = bys (Y ++ List.replicate i 0 ++ [0]) by rw [← bys_append])) ?_; rintro _ _ ⟨a33, c33, rfl, hc33, rfl⟩; refine tla ?_; refine tl_nil ?_; refine q_block_n (q_then_n ?_); exact ⟨_, by omega, i + 1, a33, c33, by omega, by omega, rfl, rfl, by rw [List.replicate_succ', ← List.append_assoc]; repeat (first | with_reducible exact dr_refl | apply dr_keep | apply dr_drop)⟩
    · obtain rfl : i = pad8 m := by have h9 : (24 + m + i) % 8 = 0 := (by first | omega | (simp at h; omega)); unfold pad8 at *; omega
      refine tc_exit ?_; refine q_then_e (q_then_e (q_block_x (q_then_n ?_))); refine sr ?_; refine tlm ?_; refine tla ?_; refine nq ?_; refine tc_ret ?_
      rw [hYr, show 24 + up8 m = 24 + m + pad8 m by unfold up8; omega]
      exact ⟨_, _, res1 rfl rfl, Dr.sat (by repeat (first | with_reducible exact dr_refl | apply dr_keep | apply dr_drop)), a5, c5, rfl, hp1, rfl⟩
set_option maxRecDepth 20000 in
set_option maxHeartbeats 2000000 in
theorem rread_c {A R : SP} {C : SP → SP} {r : Nat} {s : DevS} (hc : Ct A (RDev r s) R C := by repeat (first | with_reducible exact ct_here | apply ct_left)) {bk at_ sz : Nat} (hl : Has R bk (cl (lcs11 r at_ sz) 233) := by (repeat (first | assumption | with_reducible exact has_here | with_reducible exact has_pt | apply has_left))) (hlw : LogW (s.ls.length * 64) at_ sz := by assumption) {q p : Nat} {room : List Nat} (ho : s.off = false := by assumption) (hroom : roomS at_ sz s = room := by assumption) (hq : q = at_ + 64 + p := by omega) (hp : p ≤ sz - 64 := by omega) :
    Fn Tryz.prog 221 #[.pointer (some ⟨bk, 0, none⟩), .int .i64 (q : Nat)] (A) (fun r_ B => ∃ a2 c2, r_ = .tuple #[.agg #[.int .i64 ((rdW (readS (s.ls.length * 64) at_ sz room p) : Nat) : Int), .slice a2 (rdO (readS (s.ls.length * 64) at_ sz room p)).length c2], .int .i64 ((rkT (readS (s.ls.length * 64) at_ sz room p) : Nat) : Int), .bool (readS (s.ls.length * 64) at_ sz room p).isSome] ∧ (rdO (readS (s.ls.length * 64) at_ sz room p)).length ≤ c2 ∧ B = C (RDev r s) * Sl 1 (.slice a2 (rdO (readS (s.ls.length * 64) at_ sz room p)).length c2) (rdO (readS (s.ls.length * 64) at_ sz room p)).length (bys (rdO (readS (s.ls.length * 64) at_ sz room p)))) := by
  refine fn_enterW (args := [.pointer (some ⟨bk, 0, none⟩), .int .i64 (q : Nat)]) Tryz.func221 rfl Tryz.ntmps221 (by simp) ?_; refine tc_have (fun _ _ h => wfR_ct hc h) fun hw => ?_
  have htop := hw.top
  have hpos := hw.pos
  obtain ⟨rfl, hC⟩ := hc
  rw [hC]
  have hlw9 := hlw
  obtain ⟨w1, w2, w3, w4, w5⟩ := hlw9
  have hil := imgS_len hw
  have hrl : room.length = sz - 64 := by rw [← hroom]; unfold roomS; rw [List.length_take, List.length_drop, hil]; omega
  have hb : ∀ x ∈ room, x < 256 := fun x hx => by rw [← hroom] at hx; exact img_sub x hx
  obtain ⟨w, hwq⟩ : ∃ w, (nm ((room.drop p).take 8)) = w := ⟨_, rfl⟩
  obtain ⟨m, hmq⟩ : ∃ m, (nm ((room.drop (p + 8)).take 8)) = m := ⟨_, rfl⟩
  have hw8 : w < 18446744073709551616 := hwq ▸ nm8_lt fun x hx => hb x (List.mem_of_mem_drop hx)
  have hm8 : m < 18446744073709551616 := hmq ▸ nm8_lt fun x hx => hb x (List.mem_of_mem_drop hx)
  refine sr ?_; refine tl_x rfl (o_alloc z253 rfl) ?_; rintro _ _ ⟨b4, rfl, rfl⟩; refine tla ?_; refine tla ?_; refine nq ?_; refine tc_seq ?_; refine tc_regq mo (by kernel_rfl) ?_; refine ql_v rfl (o_move (by conv => lhs; whnf)) ?_; refine ql_v rfl (o_nilCheck rfl) ?_; refine ql_v rfl (o_fieldAddr (o := 1) Tryz.underlying233 rfl rfl sz3 rfl) ?_; refine ql_v rfl (o_load p3 rfl (by repeat (first | assumption | apply has_left)) rfl) ?_; refine ql_v rfl (o_move (by conv => lhs; whnf)) ?_; refine ql_v rfl (o_nilCheck rfl) ?_; refine ql_v rfl (o_fieldAddr (o := 2) Tryz.underlying233 rfl rfl sz3 rfl) ?_; refine ql_v rfl (o_load p3 rfl (by repeat (first | assumption | apply has_left)) rfl) ?_; refine ql_v rfl (by first | exact o_addI rfl rfl (by omega) | exact o_add rfl rfl) ?_; refine ql_env (d := 25) (v := .int .i64 ((at_ + sz : Nat) : Int)) (by first | rfl | (show Value.int .i64 _ = _; congr 1; omega)) ?_; refine ql_v rfl (o_assign (by conv => lhs; whnf)) ?_; refine ql_nil ?_; refine q_then_n ?_; refine tc_seq ?_; refine sr ?_; refine tlm ?_; refine tlm ?_; refine tv (o_subI rfl rfl (by omega)) ?_; refine tv (o_lss rfl rfl) ?_; refine nq ?_; refine tc_cond rfl (fun h => ?_) (fun h => ?_)
  · have hsh : room.length < p + 24 := by first | omega | (simp at h; omega)
    refine sr ?_; refine tv (o_bS (l := [_, _]) pv_nil Tryz.underlying253 z253 (pl253 Tryz.underlying253) rfl) ?_; refine tl_u rfl (o_stUN rfl (by repeat (first | with_reducible exact upd_here | with_reducible exact upd_pt | apply upd_left)) sz253 rfl rfl rfl (by first | decide | simp | omega) rfl) ?_; refine tla ?_; refine tla ?_; refine nq ?_; refine tc_ret ?_; refine q_then_r ?_
    have e0 : (readS (s.ls.length * 64) at_ sz room p) = none := by exact read_short hsh
    rw [e0]
    exact ⟨.tuple #[.agg #[.int .i64 0, .slice none 0 0], .int .i64 0, .bool false], R * RDev r s * Sl 1 (.slice none 0 0) 0 [], resA3 rfl (rv_cell a253 sz253 rfl (by repeat (first | with_reducible exact has_here | with_reducible exact has_pt | apply has_left)) (by show 2 ≤ 2; decide) rfl) (rv_tmp rfl) (rv_tmp rfl), fun _ _ h => sl_nil (Dr.sat (by repeat (first | with_reducible exact dr_refl | apply dr_keep | apply dr_drop)) _ _ h), none, 0, rfl, Nat.le_refl _, rfl⟩
  · have hsh : ¬ room.length < p + 24 := by first | omega | (simp at h; omega)
    have hwq2 : nm (((imgS s).drop q).take 8) = w := by rw [hq, room_sub hroom (by omega)]; exact hwq
    have hmq2 : nm (((imgS s).drop (q + 8)).take 8) = m := by rw [hq, show at_ + 64 + p + 8 = at_ + 64 + (p + 8) by omega, room_sub hroom (by omega)]; exact hmq
    refine tc_skip ?_; refine q_then_n ?_; refine sr ?_; refine tlm ?_; refine tlm ?_; refine tl_c rfl (o_call bd220 rfl (rnum_c (s := s) (q := q))) ?_; rintro _ _ ⟨rfl, rfl⟩; refine tl_env (d := 33) (v := .int .u64 (w : Nat)) (by show Value.int .u64 ((nm (((imgS s).drop q).take 8) : Nat) : Int) = _; rw [hwq2]) ?_; refine tla ?_; refine nq ?_; refine sr ?_; refine tlm ?_; refine tlm ?_; refine tv (by first | exact o_addI rfl rfl (by omega) | exact o_add rfl rfl) ?_; refine tl_env (d := 36) (v := .int .i64 ((q + 8 : Nat) : Int)) (by first | rfl | (show Value.int .i64 _ = _; congr 1; omega)) ?_; refine tl_c rfl (o_call bd220 rfl (rnum_c (s := s) (q := q + 8))) ?_; rintro _ _ ⟨rfl, rfl⟩; refine tl_env (d := 37) (v := .int .u64 (m : Nat)) (by show Value.int .u64 ((nm (((imgS s).drop (q + 8)).take 8) : Nat) : Int) = _; rw [hmq2]) ?_; refine tla ?_; refine nq ?_; refine tc_seq ?_; refine tc_seq ?_; refine tc_cut (fun ρ BB => ∃ (bb : Bool), (bb = decide (s.ls.length * 64 < w ∨ s.ls.length * 64 < m)) ∧ ρ 59 = .bool bb ∧ ρ 0 = .pointer (some ⟨bk, 0, none⟩) ∧ ρ 1 = .int .i64 (q : Nat) ∧ ρ 4 = .pointer (some ⟨b4, 0, none⟩) ∧ ρ 7 = .int .i64 ((at_ + sz : Nat) : Int) ∧ ρ 8 = .int .u64 (w : Nat) ∧ ρ 9 = .int .u64 (m : Nat) ∧ BB = R * RDev r s * pt b4 (cl [.int .i64 0, .slice none 0 0] 253)) ?_ ?_
    · skip
      refine tc_reg ?_; refine tlm ?_; refine tlm ?_; refine tv (o_nilCheck rfl) ?_; refine tv (o_fieldAddr (o := 0) Tryz.underlying233 rfl rfl sz48 rfl) ?_; refine tv (o_load p48 rfl (by repeat (first | assumption | apply has_left)) rfl) ?_; refine tv (o_nilCheck rfl) ?_; refine tv (o_fieldAddr (o := 0) Tryz.underlying195 rfl rfl sz3 rfl) ?_; refine tv (o_loadC (b := r) p3 rfl (by repeat (first | exact cellR0 | apply Cell.left))) ?_; refine tv (by first | exact o_conv64 Tryz.underlying3 Tryz.underlying174 rfl | exact o_conv Tryz.underlying3 Tryz.underlying174 rfl) ?_; refine tl_env (d := 46) (v := .int .u64 ((s.ls.length * 64 : Nat) : Int)) (congrArg (fun z : Nat => Value.int .u64 (z : Int)) (Nat.mod_eq_of_lt (by omega))) ?_; refine tv (o_gtr rfl rfl) ?_; refine tlm ?_; refine tl_bool (d := 48) rfl (fun h => ?_) (fun h => ?_)
      · have g48 : (s.ls.length * 64 < w) := by first | exact of_decide_eq_true h | (have h2 := h; simp at h2; omega) | simpa using h
        refine tk ?_; refine tk ?_; refine tk ?_; refine tk ?_; refine tk ?_; refine tk ?_; refine tk ?_; refine tk ?_; refine tk ?_; refine tk ?_; refine tv (o_pick_t rfl (by conv => lhs; whnf)) ?_; refine tl_nil ?_; exact ⟨_, by first | exact (decide_eq_true (by omega)).symm | exact (decide_eq_false (by omega)).symm | (rw [decide_eq_decide]; omega), rfl, rfl, rfl, rfl, rfl, rfl, rfl, rfl⟩
      · have g48 : ¬ (s.ls.length * 64 < w) := by first | exact of_decide_eq_false h | (have h2 := h; simp at h2; omega) | simpa using h
        refine tlm ?_; refine tlm ?_; refine tv (o_nilCheck rfl) ?_; refine tv (o_fieldAddr (o := 0) Tryz.underlying233 rfl rfl sz48 rfl) ?_; refine tv (o_load p48 rfl (by repeat (first | assumption | apply has_left)) rfl) ?_; refine tv (o_nilCheck rfl) ?_; refine tv (o_fieldAddr (o := 0) Tryz.underlying195 rfl rfl sz3 rfl) ?_; refine tv (o_loadC (b := r) p3 rfl (by repeat (first | exact cellR0 | apply Cell.left))) ?_; refine tv (by first | exact o_conv64 Tryz.underlying3 Tryz.underlying174 rfl | exact o_conv Tryz.underlying3 Tryz.underlying174 rfl) ?_; refine tl_env (d := 57) (v := .int .u64 ((s.ls.length * 64 : Nat) : Int)) (congrArg (fun z : Nat => Value.int .u64 (z : Int)) (Nat.mod_eq_of_lt (by omega))) ?_; refine tv (o_gtr rfl rfl) ?_; refine tv (o_pick_f rfl (by conv => lhs; whnf)) ?_; refine tl_nil ?_; exact ⟨_, by first | exact (decide_eq_true (by omega)).symm | exact (decide_eq_false (by omega)).symm | (rw [decide_eq_decide]; omega), rfl, rfl, rfl, rfl, rfl, rfl, rfl, rfl⟩
    · intro ρ B hI
      obtain ⟨bb, hbb0, hE59, hE0, hE1, hE4, hE7, hE8, hE9, rfl⟩ := hI
      refine q_then_n ?_; refine tc_env (d := 59) hE59 ?_; refine tc_env (d := 0) hE0 ?_; refine tc_env (d := 1) hE1 ?_; refine tc_env (d := 4) hE4 ?_; refine tc_env (d := 7) hE7 ?_; refine tc_env (d := 8) hE8 ?_; refine tc_env (d := 9) hE9 ?_
      clear hE59 hE0 hE1 hE4 hE7 hE8 hE9
      refine tc_cond rfl (fun h => ?_) (fun h => ?_)
      · have hbig := of_decide_eq_true (show decide (s.ls.length * 64 < w ∨ s.ls.length * 64 < m) = true by rw [← hbb0]; exact h)
        refine sr ?_; refine tv (o_bS (l := [_, _]) pv_nil Tryz.underlying253 z253 (pl253 Tryz.underlying253) rfl) ?_; refine tl_u rfl (o_stUN rfl (by repeat (first | with_reducible exact upd_here | with_reducible exact upd_pt | apply upd_left)) sz253 rfl rfl rfl (by first | decide | simp | omega) rfl) ?_; refine tla ?_; refine tla ?_; refine nq ?_; refine tc_ret ?_; refine q_then_r ?_
        have e0 : (readS (s.ls.length * 64) at_ sz room p) = none := by exact read_may (by rw [hwq, hmq]; exact may_big2 hbig)
        rw [e0]
        exact ⟨.tuple #[.agg #[.int .i64 0, .slice none 0 0], .int .i64 0, .bool false], R * RDev r s * Sl 1 (.slice none 0 0) 0 [], resA3 rfl (rv_cell a253 sz253 rfl (by repeat (first | with_reducible exact has_here | with_reducible exact has_pt | apply has_left)) (by show 2 ≤ 2; decide) rfl) (rv_tmp rfl) (rv_tmp rfl), fun _ _ h => sl_nil (Dr.sat (by repeat (first | with_reducible exact dr_refl | apply dr_keep | apply dr_drop)) _ _ h), none, 0, rfl, Nat.le_refl _, rfl⟩
      · have hbig := of_decide_eq_false (show decide (s.ls.length * 64 < w ∨ s.ls.length * 64 < m) = false by rw [← hbb0]; exact h)
        have hxw : XW ((w : Int), (m : Int)) := ⟨by show -9223372036854775808 ≤ (w : Int) ∧ (w : Int) ≤ 9223372036854775807; omega, by show -9223372036854775808 ≤ (m : Int) ∧ (m : Int) ≤ 9223372036854775807; omega⟩
        refine tc_skip ?_; refine q_then_n ?_; refine sr ?_; refine tlm ?_; refine tv (o_conv Tryz.underlying174 Tryz.underlying3 rfl) ?_; refine tl_env (d := 62) (v := .int .i64 (w : Nat)) (by show Value.int .i64 (IntKind.i64.wrap _) = _; rw [wr_i64 (by omega)]) ?_; refine tlm ?_; refine tv (o_conv Tryz.underlying174 Tryz.underlying3 rfl) ?_; refine tl_env (d := 64) (v := .int .i64 (m : Nat)) (by show Value.int .i64 (IntKind.i64.wrap _) = _; rw [wr_i64 (by omega)]) ?_; refine tv (o_bS (l := [_, _]) (pv_cons (by conv => lhs; whnf) (pv_cons (by conv => lhs; whnf) pv_nil)) Tryz.underlying162 z162 (pl162 Tryz.underlying162) rfl) ?_; refine tl_x rfl (o_alloc z162 rfl) ?_; rintro _ _ ⟨b10, rfl, rfl⟩; refine tl_u rfl (o_stUN (l' := xcs ((w : Int), (m : Int))) rfl (by repeat (first | with_reducible exact upd_here | with_reducible exact upd_pt | apply upd_left)) sz162 rfl rfl rfl (by show 2 ≤ 2; decide) rfl) ?_; refine nq ?_; refine tc_seq ?_; refine sr ?_; refine tlm ?_; refine tv (o_loadN (vs := xcs ((w : Int), (m : Int))) a162 sz162 rfl (by repeat (first | with_reducible exact has_here | with_reducible exact has_pt | apply has_left)) (by show 2 ≤ 2; decide) rfl) ?_; refine tl_c rfl (o_call bd258 rfl (rMay11_c (s := s) (x := ((w : Int), (m : Int))) (hl := by repeat (first | assumption | apply has_left)))) ?_
        rintro _ _ ⟨rfl, rfl⟩; refine tv (o_not rfl) ?_; refine nq ?_; refine tc_cond rfl (fun h => ?_) (fun h => ?_)
        · have hmy : mayX (s.ls.length * 64) at_ sz ((w : Int), (m : Int)) = false := by simpa using h
          refine sr ?_; refine tv (o_bS (l := [_, _]) pv_nil Tryz.underlying253 z253 (pl253 Tryz.underlying253) rfl) ?_; refine tl_u rfl (o_stUN rfl (by repeat (first | with_reducible exact upd_here | with_reducible exact upd_pt | apply upd_left)) sz253 rfl rfl rfl (by first | decide | simp | omega) rfl) ?_; refine tla ?_; refine tla ?_; refine nq ?_; refine tc_ret ?_; refine q_then_r ?_
          have e0 : (readS (s.ls.length * 64) at_ sz room p) = none := by exact read_may (by rw [hwq, hmq]; exact hmy)
          rw [e0]
          exact ⟨.tuple #[.agg #[.int .i64 0, .slice none 0 0], .int .i64 0, .bool false], R * RDev r s * Sl 1 (.slice none 0 0) 0 [], resA3 rfl (rv_cell a253 sz253 rfl (by repeat (first | with_reducible exact has_here | with_reducible exact has_pt | apply has_left)) (by show 2 ≤ 2; decide) rfl) (rv_tmp rfl) (rv_tmp rfl), fun _ _ h => sl_nil (Dr.sat (by repeat (first | with_reducible exact dr_refl | apply dr_keep | apply dr_drop)) _ _ h), none, 0, rfl, Nat.le_refl _, rfl⟩
        · have hmy : mayX (s.ls.length * 64) at_ sz ((w : Int), (m : Int)) = true := by simpa using h
          have hm1 : 1 ≤ m := by rcases Nat.lt_or_ge m 1 with h9 | h9; rw [may_zero1 h9] at hmy; exact absurd hmy (by decide); exact h9
          have hup := up8_le m
          refine tc_skip ?_; refine q_then_n ?_; refine sr ?_; refine tv (o_fieldAddr (o := 1) Tryz.underlying162 rfl rfl sz3 rfl) ?_; refine tv (by first | exact o_load p3 rfl (by repeat (first | with_reducible exact has_here | with_reducible exact has_pt | apply has_left)) rfl | exact o_loadC p3 rfl (by assumption)) ?_; refine tl_c rfl (o_call bd259 rfl (rRound8_c (n := m))) ?_; rintro _ _ ⟨rfl, rfl⟩; refine tlm ?_; refine tv (o_extract rfl rfl) ?_; refine tl_env (d := 75) (v := .int .i64 ((up8 m : Nat) : Int)) (by show Value.int .i64 (rndS m).1 = _; rw [rnd_small (by omega)]) ?_; refine tv (o_extract rfl rfl) ?_; refine tla ?_; refine tla ?_; refine nq ?_; refine tc_seq ?_; refine sr ?_; refine tlm ?_; refine tlm ?_; refine tlm ?_; refine tv (o_subI rfl rfl (by omega)) ?_; refine tv (o_subI rfl rfl (by omega)) ?_; refine tv (o_gtr rfl rfl) ?_; refine nq ?_; refine tc_cond rfl (fun h => ?_) (fun h => ?_)
          · have hnr : room.length < p + (24 + up8 m) := by first | omega | (simp at h; omega)
            refine sr ?_; refine tv (o_bS (l := [_, _]) pv_nil Tryz.underlying253 z253 (pl253 Tryz.underlying253) rfl) ?_; refine tl_u rfl (o_stUN rfl (by repeat (first | with_reducible exact upd_here | with_reducible exact upd_pt | apply upd_left)) sz253 rfl rfl rfl (by first | decide | simp | omega) rfl) ?_; refine tla ?_; refine tla ?_; refine nq ?_; refine tc_ret ?_; refine q_then_r ?_
            have e0 : (readS (s.ls.length * 64) at_ sz room p) = none := by exact read_need (by rw [hmq]; exact hnr)
            rw [e0]
            exact ⟨.tuple #[.agg #[.int .i64 0, .slice none 0 0], .int .i64 0, .bool false], R * RDev r s * Sl 1 (.slice none 0 0) 0 [], resA3 rfl (rv_cell a253 sz253 rfl (by repeat (first | with_reducible exact has_here | with_reducible exact has_pt | apply has_left)) (by show 2 ≤ 2; decide) rfl) (rv_tmp rfl) (rv_tmp rfl), fun _ _ h => sl_nil (Dr.sat (by repeat (first | with_reducible exact dr_refl | apply dr_keep | apply dr_drop)) _ _ h), none, 0, rfl, Nat.le_refl _, rfl⟩
          · have hnr : ¬ room.length < p + (24 + up8 m) := by first | omega | (simp at h; omega)
            obtain ⟨old, hold⟩ : ∃ old, ((room.drop (p + 24)).take m) = old := ⟨_, rfl⟩
            have holl : old.length = m := by rw [← hold, List.length_take, List.length_drop]; omega
            have hob : ∀ x ∈ old, x < 256 := fun x hx => hb x (List.mem_of_mem_drop (List.mem_of_mem_take (hold.symm ▸ hx)))
            have hold2 : ((imgS s).drop (q + 24)).take m = old := by rw [hq, show at_ + 64 + p + 24 = at_ + 64 + (p + 24) by omega, room_sub hroom (by omega)]; exact hold
            have htk2 : ((imgS s).drop q).take (24 + up8 m) = (room.drop p).take (24 + up8 m) := by rw [hq, room_sub hroom (by omega)]
            refine tc_skip ?_; refine q_then_n ?_; refine tc_seq ?_; refine tc_regh (S := R * pt b4 (cl [.int .i64 0, .slice none 0 0] 253) * pt b10 (cl (xcs ((w : Int), (m : Int))) 162)) mo (by repeat (first | with_reducible exact dr_refl | apply dr_keep | apply dr_drop)) ?_
            show TH _ _ _ _ _ 14 #[ff,ff,ff,ff,ff,ff,ff,ff,ff,ff,ff,ff,ff,ff] _ _
            refine th_take (i := 0) (listed' := #[tt,ff,ff,ff,ff,ff,ff,ff,ff,ff,ff,ff,ff,ff]) rfl (by kernel_rfl) (by kernel_rfl) (by kernel_rfl) rfl rfl (o_move (by conv => lhs; whnf)) ?_; refine th_take (i := 1) (listed' := #[tt,tt,ff,ff,ff,ff,ff,ff,ff,ff,ff,ff,ff,ff]) rfl (by kernel_rfl) (by kernel_rfl) (by kernel_rfl) rfl rfl (o_nilCheck rfl) ?_; refine th_take (i := 2) (listed' := #[tt,tt,tt,ff,ff,ff,ff,ff,ff,ff,ff,ff,ff,ff]) rfl (by kernel_rfl) (by kernel_rfl) (by kernel_rfl) rfl rfl (o_fieldAddr (o := 0) Tryz.underlying233 rfl rfl sz48 rfl) ?_; refine th_take (i := 3) (listed' := #[tt,tt,tt,tt,ff,ff,ff,ff,ff,ff,ff,ff,ff,ff]) rfl (by kernel_rfl) (by kernel_rfl) (by kernel_rfl) rfl rfl (o_load p48 rfl (by repeat (first | assumption | apply has_left)) rfl) ?_; refine th_take (i := 4) (listed' := #[tt,tt,tt,tt,tt,ff,ff,ff,ff,ff,ff,ff,ff,ff]) rfl (by kernel_rfl) (by kernel_rfl) (by kernel_rfl) rfl rfl (o_move (by conv => lhs; whnf)) ?_; refine th_take (i := 5) (listed' := #[tt,tt,tt,tt,tt,tt,ff,ff,ff,ff,ff,ff,ff,ff]) rfl (by kernel_rfl) (by kernel_rfl) (by kernel_rfl) rfl rfl (by first | exact o_addI rfl rfl (by omega) | exact o_add rfl rfl) ?_; refine th_env (d := 90) (v := .int .i64 ((q + 24 : Nat) : Int)) (by first | rfl | (show Value.int .i64 _ = _; congr 1; omega)) ?_; refine th_take (i := 6) (listed' := #[tt,tt,tt,tt,tt,tt,tt,ff,ff,ff,ff,ff,ff,ff]) rfl (by kernel_rfl) (by kernel_rfl) (by kernel_rfl) rfl rfl (o_fieldAddr (o := 1) Tryz.underlying162 rfl rfl sz3 rfl) ?_
            refine th_take (i := 7) (listed' := #[tt,tt,tt,tt,tt,tt,tt,tt,ff,ff,ff,ff,ff,ff]) rfl (by kernel_rfl) (by kernel_rfl) (by kernel_rfl) rfl rfl (by first | exact o_load p3 rfl (by repeat (first | with_reducible exact has_here | with_reducible exact has_pt | apply has_left)) rfl | exact o_loadC p3 rfl (by assumption)) ?_; refine th_one (i := 8) (by kernel_rfl) ?_; refine oh_c (i := 8) (listed' := #[tt,tt,tt,tt,tt,tt,tt,tt,tt,ff,ff,ff,ff,ff]) rfl rfl rfl (o_call bd174 rfl (rLoad_c (s := s) (p := q + 24) (m := m))) ?_; rintro _ _ ⟨a93, c93, rfl, hc93, rfl⟩; refine ⟨by repeat (first | with_reducible exact dr_refl | apply dr_keep | apply dr_drop), ?_⟩
            rw [hold2]
            refine th_take (i := 9) (listed' := #[tt,tt,tt,tt,tt,tt,tt,tt,tt,tt,ff,ff,ff,ff]) rfl (by kernel_rfl) (by kernel_rfl) (by kernel_rfl) rfl rfl (o_move (by conv => lhs; whnf)) ?_; refine th_take (i := 10) (listed' := #[tt,tt,tt,tt,tt,tt,tt,tt,tt,tt,tt,ff,ff,ff]) rfl (by kernel_rfl) (by kernel_rfl) (by kernel_rfl) rfl rfl (o_extract rfl rfl) ?_; refine th_take (i := 11) (listed' := #[tt,tt,tt,tt,tt,tt,tt,tt,tt,tt,tt,tt,ff,ff]) rfl (by kernel_rfl) (by kernel_rfl) (by kernel_rfl) rfl rfl (o_extract rfl rfl) ?_; refine th_take (i := 12) (listed' := #[tt,tt,tt,tt,tt,tt,tt,tt,tt,tt,tt,tt,tt,ff]) rfl (by kernel_rfl) (by kernel_rfl) (by kernel_rfl) rfl rfl (o_assign (by conv => lhs; whnf)) ?_; refine th_take (i := 13) (listed' := #[tt,tt,tt,tt,tt,tt,tt,tt,tt,tt,tt,tt,tt,tt]) rfl (by kernel_rfl) (by kernel_rfl) (by kernel_rfl) rfl rfl (o_assign (by conv => lhs; whnf)) ?_; refine th_done (by kernel_rfl) ?_; refine q_then_n ?_; refine sr ?_; refine tlm ?_; refine tv (o_nilCheck rfl) ?_; refine tv (o_fieldAddr (o := 0) Tryz.underlying233 rfl rfl sz48 rfl) ?_; refine tv (o_load p48 rfl (by repeat (first | assumption | apply has_left)) rfl) ?_; refine tlm ?_; refine tlm ?_; refine tv (by first | exact o_addI rfl rfl (by omega) | exact o_add rfl rfl) ?_; refine tl_env (d := 103) (v := .int .i64 ((24 + up8 m : Nat) : Int)) (by first | rfl | (show Value.int .i64 _ = _; congr 1; omega)) ?_
            refine tl_c rfl (o_call bd174 rfl (rLoad_c (s := s) (p := q) (m := 24 + up8 m))) ?_; rintro _ _ ⟨a104, c104, rfl, hc104, rfl⟩
            rw [htk2]
            refine tlm ?_; refine tv (o_extract rfl rfl) ?_; refine tv (o_extract rfl rfl) ?_; refine tla ?_; refine tla ?_; refine nq ?_; refine tc_seq ?_; refine sr ?_; refine tlm ?_; refine tv (o_fieldAddr (o := 0) Tryz.underlying162 rfl rfl sz3 rfl) ?_; refine tv (by first | exact o_load p3 rfl (by repeat (first | with_reducible exact has_here | with_reducible exact has_pt | apply has_left)) rfl | exact o_loadC p3 rfl (by assumption)) ?_; refine tlm ?_; refine tl_c rfl (o_call bd260 rfl (rRec_c (p := w) (m := m) (xs := old) (hr := (by repeat (first | with_reducible exact rs_sl | assumption | apply Rs.left))) (hm := holl))) ?_; rintro _ _ ⟨a111, c111, rfl, hc111, rfl⟩; refine tl_c rfl (o_call bd60 rfl (EqBytes_c (xs := (room.drop p).take (24 + up8 m)) (ys := recS w old) (h1 := (by repeat (first | with_reducible exact rs_sl | assumption | apply Rs.left))) (h2 := (by repeat (first | with_reducible exact rs_sl | assumption | apply Rs.left))) (hx := by rw [List.length_take, List.length_drop]; omega) (hy := by rw [recS_len, holl]))) ?_; rintro _ _ ⟨rfl, rfl⟩; refine tv (o_not rfl) ?_; refine nq ?_; refine tc_cond rfl (fun h => ?_) (fun h => ?_)
            · have hne : recS w old ≠ (room.drop p).take (24 + up8 m) := fun e => by rw [e] at h; simp at h
              refine sr ?_; refine tv (o_bS (l := [_, _]) pv_nil Tryz.underlying253 z253 (pl253 Tryz.underlying253) rfl) ?_; refine tl_u rfl (o_stUN rfl (by repeat (first | with_reducible exact upd_here | with_reducible exact upd_pt | apply upd_left)) sz253 rfl rfl rfl (by first | decide | simp | omega) rfl) ?_; refine tla ?_; refine tla ?_; refine nq ?_; refine tc_ret ?_; refine q_then_r ?_
              have e0 : (readS (s.ls.length * 64) at_ sz room p) = none := by exact read_bad hwq hmq (by rw [hold]; exact hne)
              rw [e0]
              exact ⟨.tuple #[.agg #[.int .i64 0, .slice none 0 0], .int .i64 0, .bool false], R * RDev r s * Sl 1 (.slice none 0 0) 0 [], resA3 rfl (rv_cell a253 sz253 rfl (by repeat (first | with_reducible exact has_here | with_reducible exact has_pt | apply has_left)) (by show 2 ≤ 2; decide) rfl) (rv_tmp rfl) (rv_tmp rfl), fun _ _ h => sl_nil (Dr.sat (by repeat (first | with_reducible exact dr_refl | apply dr_keep | apply dr_drop)) _ _ h), none, 0, rfl, Nat.le_refl _, rfl⟩
            · have heq : recS w old = (room.drop p).take (24 + up8 m) := (show (room.drop p).take (24 + up8 m) = recS w old by simpa using h).symm
              refine tc_skip ?_; refine q_then_n ?_; refine sr ?_; refine tv (o_fieldAddr (o := 0) Tryz.underlying162 rfl rfl sz3 rfl) ?_; refine tv (by first | exact o_load p3 rfl (by repeat (first | with_reducible exact has_here | with_reducible exact has_pt | apply has_left)) rfl | exact o_loadC p3 rfl (by assumption)) ?_; refine tlm ?_; refine tv (o_bS (l := [_, _]) (pv_cons (by conv => lhs; whnf) (pv_cons (by conv => lhs; whnf) pv_nil)) Tryz.underlying253 z253 (pl253 Tryz.underlying253) rfl) ?_; refine tlm ?_; refine tv (by first | exact o_addI rfl rfl (by omega) | exact o_add rfl rfl) ?_; refine tl_env (d := 120) (v := .int .i64 ((24 + up8 m : Nat) : Int)) (by first | rfl | (show Value.int .i64 _ = _; congr 1; omega)) ?_; refine tl_u rfl (o_stUN (l' := [.int .i64 (w : Int), .slice a93 m c93]) rfl (by repeat (first | with_reducible exact upd_here | with_reducible exact upd_pt | apply upd_left)) sz253 rfl rfl rfl (by show 2 ≤ 2; decide) rfl) ?_; refine tla ?_; refine tla ?_; refine nq ?_; refine tc_ret ?_
              have e0 : (readS (s.ls.length * 64) at_ sz room p) = some ((w, old), 24 + up8 m) := by rw [← hold]; exact read_good hwq hmq hsh hmy hnr (by rw [hold]; exact heq)
              rw [e0]
              exact ⟨.tuple #[.agg #[.int .i64 (w : Int), .slice a93 m c93], .int .i64 ((24 + up8 m : Nat) : Int), .bool true], R * RDev r s * Sl 1 (.slice a93 m c93) m (bys old), resA3 rfl (rv_cell a253 sz253 rfl (by repeat (first | with_reducible exact has_here | with_reducible exact has_pt | apply has_left)) (by show 2 ≤ 2; decide) rfl) (rv_tmp rfl) (rv_tmp rfl), Dr.sat (by repeat (first | with_reducible exact dr_refl | apply dr_keep | apply dr_drop)), a93, c93, by show _ = Value.tuple #[.agg #[.int .i64 (w : Int), .slice a93 old.length c93], _, _]; rw [holl]; rfl, by show old.length ≤ c93; rw [holl]; exact hc93, by show _ = R * RDev r s * Sl 1 (.slice a93 old.length c93) old.length (bys old); rw [holl]⟩
end Go.Vl

namespace Go.Vl
open Go Go.Proofs
theorem recsF_big {n at_ sz : Nat} {room : List Nat} : ∀ {k p : Nat}, p ≤ room.length → room.length < p + k → recsF n at_ sz room k p = ([], 110)
  | 0, p, h1, h2 => by omega
  | k + 1, p, h1, h2 => by
    have e : recsF n at_ sz room (k + 1) p = match readS n at_ sz room p with
      | none => ([], 110)
      | some (x, t) => if (recsF n at_ sz room k (p + t)).2 ≠ 0 then ([], 110) else (x :: (recsF n at_ sz room k (p + t)).1, 0) := rfl
    rw [e]
    cases hr : readS n at_ sz room p with
    | none => rfl
    | some y =>
      have h3 := read_room (x := y.1) (t := y.2) hr
      have h4 : recsF n at_ sz room k (p + y.2) = ([], 110) := recsF_big (by omega) (by omega)
      simp only []
      rw [h4, if_pos (by decide)]
attribute [local irreducible] crk crL crc Sl pt ro Dev RDev imgS recS readS recsF rdW rdO rkT Parts rvl recordsS
set_option maxRecDepth 20000 in
set_option maxHeartbeats 2000000 in
theorem rRecords_c {A R : SP} {C : SP → SP} {r : Nat} {s : DevS} (hc : Ct A (RDev r s) R C := by repeat (first | with_reducible exact ct_here | apply ct_left)) {bk at_ sz : Nat} (hl : Has R bk (cl (lcs11 r at_ sz) 233) := by (repeat (first | assumption | with_reducible exact has_here | with_reducible exact has_pt | apply has_left))) (hlw : LogW (s.ls.length * 64) at_ sz := by assumption) :
    Fn Tryz.prog 175 #[.pointer (some ⟨bk, 0, none⟩)] (A) (fun r_ B => ∃ a2 c2 vs, r_ = .tuple #[.slice a2 (recordsS at_ sz s).1.length c2, .int .i64 (recordsS at_ sz s).2] ∧ (recordsS at_ sz s).1.length ≤ c2 ∧ vs.length = (recordsS at_ sz s).1.length ∧ B = C (RDev r s) * Parts vs ((recordsS at_ sz s).1.map (·.2)) * Sl 2 (.slice a2 (recordsS at_ sz s).1.length c2) (recordsS at_ sz s).1.length (kcl (recordsS at_ sz s).1 vs)) := by
  refine fn_enterW (args := [.pointer (some ⟨bk, 0, none⟩)]) Tryz.func175 rfl Tryz.ntmps175 (by simp) ?_; refine tc_have (fun _ _ h => wfR_ct hc h) fun hw => ?_
  have htop := hw.top
  have hpos := hw.pos
  obtain ⟨rfl, hC⟩ := hc
  have hAC : ∀ g w, sat g w (R * RDev r s) → sat g w (C (RDev r s)) := fun g w h => by rw [hC]; exact h
  have hlw9 := hlw
  obtain ⟨w1, w2, w3, w4, w5⟩ := hlw9
  refine sr ?_; refine tla ?_; refine tla ?_; refine nq ?_; refine tc_seq ?_; refine sr ?_; refine tlm ?_; refine tv (o_nilCheck rfl) ?_; refine tv (o_fieldAddr (o := 0) Tryz.underlying233 rfl rfl sz48 rfl) ?_; refine tv (o_load p48 rfl (by repeat (first | assumption | apply has_left)) rfl) ?_; refine tv (o_nilCheck rfl) ?_; refine tv (o_fieldAddr (o := 5) Tryz.underlying195 rfl rfl sz4 rfl) ?_; refine tv (o_loadC (b := r) p4 rfl (by repeat (first | exact cellR5 | apply Cell.left))) ?_; refine nq ?_; refine tc_cond rfl (fun h => ?_) (fun h => ?_)
  · try simp only [lv1, lv2, lv3, lv4, lv5, lv6, Bool.not_true, Bool.not_false] at h
    refine sr ?_; refine tla ?_; refine tla ?_; refine nq ?_; refine tc_ret ?_; refine q_then_r ?_
    have e0 : recordsS at_ sz s = ([], 5) := by unfold recordsS; rw [if_pos h]
    rw [e0]
    exact ⟨.tuple #[.slice none 0 0, .int .i64 (5)], C (RDev r s) * Parts [] [] * Sl 2 (.slice none 0 0) 0 [], res2 rfl rfl rfl, fun _ _ h => sl_nil (show sat _ _ (C (RDev r s) * Parts [] []) by rw [hC, show Parts [] [] = emp by unfold Parts; rfl, star_emp]; exact Dr.sat (A' := R * RDev r s) (by repeat (first | with_reducible exact dr_refl | apply dr_keep | apply dr_drop)) _ _ h), none, 0, [], rfl, Nat.le_refl _, rfl, rfl⟩
  · have ho : s.off = false := by simpa using h
    have hw2 := word_in (p := at_) ho (by omega) (by omega)
    obtain ⟨v, hv⟩ : ∃ v, (wordP (at_ : Nat) s).1 = v := ⟨_, rfl⟩
    have hvl : v < 18446744073709551616 := by rw [← hv, hw2]; exact nm8_lt fun x hx => img_lt x (List.mem_of_mem_drop hx)
    have hv2 : nm (((imgS s).drop at_).take 8) = v := by rw [← hv, hw2]
    obtain ⟨room, hroom⟩ : ∃ room, roomS at_ sz s = room := ⟨_, rfl⟩
    have hil := imgS_len hw
    have hrl : room.length = sz - 64 := by rw [← hroom]; unfold roomS; rw [List.length_take, List.length_drop, hil]; omega
    have hrec : recordsS at_ sz s = recsF (s.ls.length * 64) at_ sz room v 0 := by unfold recordsS; rw [if_neg (by rw [ho]; decide), hv, hroom]
    refine tc_skip ?_; refine q_then_n ?_; refine sr ?_; refine tlm ?_; refine tlm ?_; refine tv (o_nilCheck rfl) ?_; refine tv (o_fieldAddr (o := 1) Tryz.underlying233 rfl rfl sz3 rfl) ?_; refine tv (o_load p3 rfl (by repeat (first | assumption | apply has_left)) rfl) ?_; refine tl_c rfl (o_call bd220 rfl (rnum_c (s := s) (q := at_))) ?_; rintro _ _ ⟨rfl, rfl⟩; refine tl_env (d := 23) (v := .int .u64 (v : Nat)) (by show Value.int .u64 ((nm (((imgS s).drop at_).take 8) : Nat) : Int) = _; rw [hv2]) ?_; refine tla ?_; refine nq ?_; refine tc_seq ?_; refine sr ?_; refine tlm ?_; refine tlm ?_; refine tv (o_nilCheck rfl) ?_; refine tv (o_fieldAddr (o := 2) Tryz.underlying233 rfl rfl sz3 rfl) ?_; refine tv (o_load p3 rfl (by repeat (first | assumption | apply has_left)) rfl) ?_; refine tv (by first | exact o_conv64 Tryz.underlying3 Tryz.underlying174 rfl | exact o_conv Tryz.underlying3 Tryz.underlying174 rfl) ?_; refine tl_env (d := 29) (v := .int .u64 ((sz : Nat) : Int)) (congrArg (fun z : Nat => Value.int .u64 (z : Int)) (Nat.mod_eq_of_lt (by omega))) ?_; refine tv (o_gtr rfl rfl) ?_; refine nq ?_; refine tc_cond rfl (fun h => ?_) (fun h => ?_)
    · have hbig : sz < v := by first | omega | (simp at h; omega)
      refine sr ?_; refine tla ?_; refine tla ?_; refine nq ?_; refine tc_ret ?_; refine q_then_r ?_
      have e0 : recordsS at_ sz s = ([], 110) := by rw [hrec]; exact recsF_big (by omega) (by omega)
      rw [e0]
      exact ⟨.tuple #[.slice none 0 0, .int .i64 (110)], C (RDev r s) * Parts [] [] * Sl 2 (.slice none 0 0) 0 [], res2 rfl rfl rfl, fun _ _ h => sl_nil (show sat _ _ (C (RDev r s) * Parts [] []) by rw [hC, show Parts [] [] = emp by unfold Parts; rfl, star_emp]; exact Dr.sat (A' := R * RDev r s) (by repeat (first | with_reducible exact dr_refl | apply dr_keep | apply dr_drop)) _ _ h), none, 0, [], rfl, Nat.le_refl _, rfl, rfl⟩
    · have hbig : ¬ sz < v := by first | omega | (simp at h; omega)
      refine tc_skip ?_; refine q_then_n ?_; refine sr ?_; refine tla ?_; refine nq ?_; refine sr ?_; refine tlm ?_; refine tv (o_nilCheck rfl) ?_; refine tv (o_fieldAddr (o := 1) Tryz.underlying233 rfl rfl sz3 rfl) ?_; refine tv (o_load p3 rfl (by repeat (first | assumption | apply has_left)) rfl) ?_; refine tv (by first | exact o_addI rfl rfl (by omega) | exact o_add rfl rfl) ?_; refine tl_env (d := 35) (v := .int .i64 ((at_ + 64 + 0 : Nat) : Int)) (by first | rfl | (show Value.int .i64 _ = _; congr 1; omega)) ?_; refine tla ?_; refine nq ?_; refine tc_seq ?_; refine sr ?_; refine tla ?_; refine nq ?_; refine tc_block ?_; refine tc_pre (A' := R * RDev r s * Parts [] [] * Sl 2 (.slice none 0 0) 0 []) (fun _ _ h => sl_nil (show sat _ _ (R * RDev r s * Parts [] []) by rw [show Parts [] [] = emp by unfold Parts; rfl, star_emp]; exact h)) ?_; refine tc_loop (fun kk ρ BB => ∃ (i : Nat) (p : Nat) (D : List (Nat × List Nat)) (vs : List Value) (a5 : Option Addr) (c5 : Nat), (cat D (recsF (s.ls.length * 64) at_ sz room (v - i) p) = recordsS at_ sz s) ∧ (p ≤ sz - 64) ∧ (D.length = i) ∧ (vs.length = i) ∧ (i ≤ c5) ∧ (i ≤ v) ∧ (24 * i ≤ p) ∧ kk = v - i ∧ ρ 5 = .slice a5 i c5 ∧ ρ 6 = .int .i64 ((at_ + 64 + p : Nat) : Int) ∧ ρ 7 = .int .i64 (i : Nat) ∧ ρ 0 = .pointer (some ⟨bk, 0, none⟩) ∧ ρ 4 = .int .u64 (v : Nat) ∧ Dr BB (R * RDev r s * Parts vs (D.map (·.2)) * Sl 2 (.slice a5 i c5) i (kcl D vs))) (m := v - (0)) ?_ ?_
      · exact ⟨0, 0, [], [], none, 0, by rw [hrec, cat_nil, Nat.sub_zero], by omega, rfl, rfl, by omega, by omega, by omega, rfl, rfl, rfl, rfl, rfl, rfl, (by repeat (first | with_reducible exact dr_refl | apply dr_keep | apply dr_drop))⟩
      · intro k ρ B hI
        obtain ⟨i, p, D, vs, a5, c5, hp0, hp1, hp2, hp3, hp4, hp5, hp6, hkk1, hE5, hE6, hE7, hE0, hE4, hBA⟩ := hI
        refine tc_pre hBA.sat ?_
        clear hBA
        refine tc_env (d := 5) hE5 ?_; refine tc_env (d := 6) hE6 ?_; refine tc_env (d := 7) hE7 ?_; refine tc_env (d := 0) hE0 ?_; refine tc_env (d := 4) hE4 ?_
        clear hE5 hE6 hE7 hE0 hE4
        refine tc_seq ?_; refine sr ?_; refine tlm ?_; refine tlm ?_; refine tv (o_conv Tryz.underlying174 Tryz.underlying3 rfl) ?_; refine tl_env (d := 38) (v := .int .i64 (v : Nat)) (by show Value.int .i64 (IntKind.i64.wrap _) = _; rw [wr_i64 (by omega)]) ?_; refine tv (o_lss rfl rfl) ?_; refine nq ?_; refine tc_cond rfl (fun h => ?_) (fun h => ?_)
        · have hj : i < v := by first | omega | (simp at h; omega)
          refine tc_skip ?_; refine q_then_n ?_; refine tc_seq ?_; refine tc_block ?_; refine sr ?_; refine tlm ?_; refine tlm ?_; refine tl_c rfl (o_call bd221 rfl (rread_c (s := s) (q := at_ + 64 + p) (p := p) (room := room))) ?_; rintro _ _ ⟨a45, c45, rfl, hc45, rfl⟩; refine tlm ?_; refine tv (o_extract rfl rfl) ?_; refine tv (o_extract rfl rfl) ?_; refine tv (o_extract rfl rfl) ?_; refine tl_x rfl (o_alloc z253 rfl) ?_; rintro _ _ ⟨b8, rfl, rfl⟩; refine tl_u rfl (o_stUN (l' := [.int .i64 ((rdW (readS (s.ls.length * 64) at_ sz room p) : Nat) : Int), (.slice a45 (rdO (readS (s.ls.length * 64) at_ sz room p)).length c45)]) rfl (by repeat (first | with_reducible exact upd_here | with_reducible exact upd_pt | apply upd_left)) sz253 rfl rfl rfl (by show 2 ≤ 2; decide) rfl) ?_; refine tla ?_; refine tla ?_; refine nq ?_; refine tc_seq ?_; refine sr ?_; refine tlm ?_; refine tv (o_not rfl) ?_; refine nq ?_; refine tc_cond rfl (fun h => ?_) (fun h => ?_)
          · have hrd : (readS (s.ls.length * 64) at_ sz room p) = none := by rcases hq9 : (readS (s.ls.length * 64) at_ sz room p) with _ | x; rfl; rw [hq9] at h; simp at h
            refine sr ?_; refine tla ?_; refine tla ?_; refine nq ?_; refine tc_ret ?_; refine q_then_r (q_block_r (q_then_r (q_then_r (q_block_r (q_then_r ?_)))))
            have e0 : recordsS at_ sz s = ([], 110) := by rw [← hp0, recs_none hrd (by omega)]
            rw [e0]
            exact ⟨.tuple #[.slice none 0 0, .int .i64 (110)], C (RDev r s) * Parts [] [] * Sl 2 (.slice none 0 0) 0 [], res2 rfl rfl rfl, fun _ _ h => sl_nil (show sat _ _ (C (RDev r s) * Parts [] []) by rw [hC, show Parts [] [] = emp by unfold Parts; rfl, star_emp]; exact Dr.sat (A' := R * RDev r s) (by repeat (first | with_reducible exact dr_refl | apply dr_keep | apply dr_drop)) _ _ h), none, 0, [], rfl, Nat.le_refl _, rfl, rfl⟩
          · have hrd := rd_some (o := (readS (s.ls.length * 64) at_ sz room p)) (by simpa using h)
            have hrm := read_room hrd
            refine tc_skip ?_; refine q_then_n ?_; refine sr ?_; refine tlm ?_; refine tv (o_loadN (vs := [.int .i64 ((rdW (readS (s.ls.length * 64) at_ sz room p) : Nat) : Int), (.slice a45 (rdO (readS (s.ls.length * 64) at_ sz room p)).length c45)]) a253 sz253 rfl (by repeat (first | with_reducible exact has_here | with_reducible exact has_pt | apply has_left)) (by show 2 ≤ 2; decide) rfl) ?_; refine tl_x rfl (o_buildSliceK (k := 2) (l := [.int .i64 ((rdW (readS (s.ls.length * 64) at_ sz room p) : Nat) : Int), (.slice a45 (rdO (readS (s.ls.length * 64) at_ sz room p)).length c45)]) Tryz.underlying181 sz253 z253 rfl rfl (by decide)) ?_; rintro _ _ ⟨b53, rfl, rfl⟩; refine tl_x rfl (o_apB Tryz.underlying181 Tryz.underlying181 sz253 by253 z253 rfl (by decide) (by decide) rfl rfl rfl (by repeat (first | with_reducible exact ct_here | apply ct_left)) rfl rfl (by omega) (show _ = kcl (D ++ [(rdW (readS (s.ls.length * 64) at_ sz room p), rdO (readS (s.ls.length * 64) at_ sz room p))]) (vs ++ [(.slice a45 (rdO (readS (s.ls.length * 64) at_ sz room p)).length c45)]) by rw [kcl_snoc (by omega)])) ?_; rintro _ _ ⟨a54, c54, rfl, hc54, rfl⟩
            have hps : Parts (vs ++ [(.slice a45 (rdO (readS (s.ls.length * 64) at_ sz room p)).length c45)]) ((D ++ [(rdW (readS (s.ls.length * 64) at_ sz room p), rdO (readS (s.ls.length * 64) at_ sz room p))]).map (·.2)) = Parts vs (D.map (·.2)) * Sl 1 (.slice a45 (rdO (readS (s.ls.length * 64) at_ sz room p)).length c45) (rdO (readS (s.ls.length * 64) at_ sz room p)).length (bys (rdO (readS (s.ls.length * 64) at_ sz room p))) := by rw [List.map_append]; exact parts_snoc (by rw [List.length_map]; omega)
            refine tl_eq (show _ = R * RDev r s * Parts (vs ++ [(.slice a45 (rdO (readS (s.ls.length * 64) at_ sz room p)).length c45)]) ((D ++ [(rdW (readS (s.ls.length * 64) at_ sz room p), rdO (readS (s.ls.length * 64) at_ sz room p))]).map (·.2)) * Sl 2 (.slice a54 (i + 1) c54) (i + 1) (kcl (D ++ [(rdW (readS (s.ls.length * 64) at_ sz room p), rdO (readS (s.ls.length * 64) at_ sz room p))]) (vs ++ [(.slice a45 (rdO (readS (s.ls.length * 64) at_ sz room p)).length c45)])) * pt b8 (cl ([.int .i64 ((rdW (readS (s.ls.length * 64) at_ sz room p) : Nat) : Int), (.slice a45 (rdO (readS (s.ls.length * 64) at_ sz room p)).length c45)] : List Value) 253) by rw [hps]; ac_rfl) ?_; refine tla ?_; refine nq ?_; refine tc_reg ?_; refine tlm ?_; refine tlm ?_; refine tv (by first | exact o_addI rfl rfl (by omega) | exact o_add rfl rfl) ?_; refine tl_env (d := 57) (v := .int .i64 ((at_ + 64 + (p + rkT (readS (s.ls.length * 64) at_ sz room p)) : Nat) : Int)) (by first | rfl | (show Value.int .i64 _ = _; congr 1; omega)) ?_; refine tla ?_; refine tl_nil ?_; refine q_block_n (q_then_n ?_); refine tc_reg ?_; refine tlm ?_; refine tv (by first | exact o_addI rfl rfl (by omega) | exact o_add rfl rfl) ?_; refine tla ?_; refine nq ?_; exact ⟨_, by omega, i + 1, _, D ++ [(rdW (readS (s.ls.length * 64) at_ sz room p), rdO (readS (s.ls.length * 64) at_ sz room p))], vs ++ [(.slice a45 (rdO (readS (s.ls.length * 64) at_ sz room p)).length c45)], a54, c54, by rw [show v - (i + 1) = v - i - 1 by omega, ← recs_some hrd (by omega)]; exact hp0, by omega, by rw [List.length_append, hp2]; rfl, by rw [List.length_append, hp3]; rfl, hc54, by omega, by omega, rfl, rfl, rfl, rfl, rfl, rfl, (by repeat (first | with_reducible exact dr_refl | apply dr_keep | apply dr_drop))⟩
        · obtain rfl : i = v := by first | omega | (simp at h; omega)
          refine tc_exit ?_; refine q_then_e (q_then_e (q_block_x (q_then_n ?_))); refine sr ?_; refine tlm ?_; refine tla ?_; refine tla ?_; refine nq ?_; refine tc_ret ?_
          have e0 : recordsS at_ sz s = (D, 0) := by rw [← hp0, Nat.sub_self]; unfold recsF cat; rw [if_neg (by simp), List.append_nil]
          rw [e0]
          exact ⟨.tuple #[.slice a5 i c5, .int .i64 0], R * RDev r s * Parts vs (D.map (·.2)) * Sl 2 (.slice a5 i c5) i (kcl D vs), res2 rfl rfl rfl, Dr.sat (by repeat (first | with_reducible exact dr_refl | apply dr_keep | apply dr_drop)), a5, c5, vs, by rw [hp2], by rw [hp2]; exact hp4, by rw [hp3]; exact hp2.symm, by rw [hC]; simp only []; rw [hp2]⟩
end Go.Vl

namespace Go.Vl
open Go Go.Proofs
def sizedL (n : Nat) (xs : List Nat) : List Nat := xs.take n ++ List.replicate (n - xs.length) 0
attribute [local irreducible] Sl pt ro Dev imgS fromS
structure WdC where
  a : Option Addr
  c : Nat
  b : List Nat
  q : Int
  v : Int
  af : Int
  kq : Int
def WdC.cells (t : WdC) : List Value := [.slice t.a t.b.length t.c, .int .i64 t.q, .int .u64 t.v, .int .i64 t.af, .int .i64 t.kq]
def PWord (A : SP) (cs : List Value) (t : WdC) : Prop := cs = t.cells ∧ Rs A t.a (bys t.b) ∧ (∀ x ∈ t.b, x < 256) ∧ t.b.length ≤ t.c ∧ t.b.length ≤ 140737488351232 ∧ 0 ≤ t.v ∧ t.v < 18446744073709551616
end Go.Vl

namespace Go.Vl
open Go Go.Proofs
/-- A device of n lines with room for k more contents of each. -/
structure Gd (n k : Nat) (s : DevS) : Prop where
  len : s.ls.length = n
  room : Room k s
  wf : WfD s
theorem Gd.le {n a b : Nat} {s : DevS} (h : Gd n a s) (hab : b ≤ a) : Gd n b s := ⟨h.len, room_le h.room hab, h.wf⟩
end Go.Vl
