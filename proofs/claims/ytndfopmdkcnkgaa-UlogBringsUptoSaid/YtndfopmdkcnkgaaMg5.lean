/- What the row rests on, part 5: a calculus of assertions, walks of functions over it, and plain laws. Conditions: none. -/
import Derived.Deep.QuietTactic
import Derived.BigQuiet
import Derived.WalkKit
import Derived.Test.YtndfopmdkcnkgaaProg
import Derived.OrdersHeld
import Derived.Laws.BytesArg
import Derived.RangeFuncRecord
import Derived.TacticsIn
import Derived.Deep.Slices
import Derived.OpenShut
import Derived.ChangeArms
import Derived.SizedLaws
import Derived.ChangeSame
import Derived.Test.YtndfopmdkcnkgaaRows
import Derived.Sort.QuietThIn
import Derived.Test.YtndfopmdkcnkgaaMg4
set_option linter.unusedVariables false
set_option linter.unusedSimpArgs false
namespace Go.Vl
open Go Go.Proofs
/-- The bytes of records can be read. -/
def PsR (A : SP) (L : List (Nat × List Nat)) (vs : List Value) : Prop := ∀ k, k < L.length → ∃ b c, vs.getD k (.slice none 0 0) = .slice b (L.getD k (0, [])).2.length c ∧ Rs A b (bys (L.getD k (0, [])).2) ∧ (L.getD k (0, [])).2.length ≤ 4294967296
theorem psr_of {A : SP} {L : List (Nat × List Nat)} {vs : List Value} (h1 : vs.length = L.length) (h2 : ∀ k, k < L.length → ∃ b c, vs.getD k (.slice none 0 0) = .slice b (L.getD k (0, [])).2.length c ∧ (L.getD k (0, [])).2.length ≤ c) (h3 : ∀ x ∈ L, x.2.length ≤ 4294967296) : PsR (A * Parts vs (L.map (·.2))) L vs := fun k hk => by
  obtain ⟨b, c, e, _⟩ := h2 k hk
  exact ⟨b, c, e, parts_rsL h1 hk e A, h3 _ (getD_mem hk)⟩
theorem PsR.left {A X : SP} {L : List (Nat × List Nat)} {vs : List Value} (h : PsR A L vs) : PsR (A * X) L vs := fun k hk => by
  obtain ⟨b, c, e, hr, hl⟩ := h k hk; exact ⟨b, c, e, hr.left, hl⟩
theorem olds_take {I : List Nat} {l : List (Int × Int)} {i : Nat} (h : i < l.length) {p m : Nat} (hx : l[i] = ((p : Int), (m : Int))) : oldsL I (l.take (i + 1)) = oldsL I (l.take i) ++ [(p, (I.drop p).take m)] := by
  rw [List.take_succ_eq_append_getElem h, hx]; unfold oldsL; rw [List.map_append]; rfl
theorem kcl_nil : kcl [] [] = [] := rfl
theorem olds_nil (I : List Nat) : oldsL I [] = [] := rfl
theorem list_step {α : Type} [Inhabited α] {xs ys : List α} {i : Nat} {d : α} (h : xs.take i = ys.take i) (hi : i < xs.length) (hj : i < ys.length) (e : xs.getD i d = ys.getD i d) : xs.take (i + 1) = ys.take (i + 1) := by
  rw [List.take_succ_eq_append_getElem hi, List.take_succ_eq_append_getElem hj, h]
  rw [List.getD_eq_getElem?_getD, List.getD_eq_getElem?_getD, List.getElem?_eq_getElem hi, List.getElem?_eq_getElem hj] at e
  simp only [Option.getD_some] at e
  rw [e]
attribute [local irreducible] crk crL crc Sl pt ro Dev imgS recS readS recsF rdW rdO rkT Parts rvl recordsS mdI mdK rise mds writeS rollS clearS oldsL kcl xcl lensX lst brL brX fiveX
set_option maxRecDepth 20000 in
set_option maxHeartbeats 2000000 in
theorem olds_c {A : SP} {a b : Option Addr} {n c N e : Nat} {I : List Nat} {l : List (Int × Int)} (hI : Rs A a (bys I) := by repeat (first | assumption | with_reducible exact rs_sl | with_reducible exact rs_pt0 | exact rs_none | apply Rs.left)) (hr : Rs A b (xcl l) := by repeat (first | assumption | with_reducible exact rs_sl | with_reducible exact rs_pt0 | exact rs_none | apply Rs.left)) (hIl : I.length = N := by first | assumption | rfl) (hm : l.length = n := by first | assumption | rfl) (hmc : N ≤ c := by omega) (hk : N ≤ 1073741824 := by omega) (hn : n ≤ 1048576 := by omega) (hl : ∀ x ∈ l, 1 ≤ x.2 ∧ 0 ≤ x.1 ∧ x.1 + x.2 ≤ N) :
    Fn Try.prog 26 #[.slice a N c, .slice b n e] (A) (fun r B => ∃ a2 c2 vs, r = .slice a2 n c2 ∧ n ≤ c2 ∧ vs.length = (oldsL I l).length ∧ B = A * Parts vs ((oldsL I l).map (·.2)) * Sl 2 (.slice a2 n c2) n (kcl (oldsL I l) vs)) := by
  refine fn_enterW (args := [.slice a N c, .slice b n e]) Try.func26 rfl Try.ntmps26 (by simp) ?_; refine sr ?_; refine tla ?_; refine nq ?_; refine sr ?_; refine tla ?_; refine nq ?_; refine tc_seq ?_; refine sr ?_; refine tla ?_; refine nq ?_; refine tc_block ?_; refine tc_pre (A' := A * Parts [] ((oldsL I (l.take 0)).map (·.2)) * Sl 2 (.slice none 0 0) 0 (kcl (oldsL I (l.take 0)) [])) (fun _ _ h => by rw [List.take_zero, olds_nil, List.map_nil, kcl_nil]; exact sl_nil (show sat _ _ (A * Parts [] []) by rw [show Parts [] [] = emp by unfold Parts; rfl, star_emp]; exact h)) ?_; refine tc_loop (fun kk ρ BB => ∃ (i : Nat) (vs : List Value) (a5 : Option Addr) (c5 : Nat), (i ≤ n) ∧ (vs.length = i) ∧ (i ≤ c5) ∧ kk = n - i ∧ ρ 5 = .slice a5 i c5 ∧ ρ 6 = .int .i64 (i : Nat) ∧ ρ 0 = .slice a N c ∧ ρ 1 = .slice b n e ∧ Dr BB (A * Parts vs ((oldsL I (l.take i)).map (·.2)) * Sl 2 (.slice a5 i c5) i (kcl (oldsL I (l.take i)) vs))) (m := n - (0)) ?_ ?_
  · exact ⟨0, [], none, 0, by omega, rfl, by omega, rfl, rfl, rfl, rfl, rfl, (by repeat (first | with_reducible exact dr_refl | apply dr_keep | apply dr_drop))⟩
  · intro k ρ B hI
    obtain ⟨i, vs, a5, c5, hp0, hp1, hp2, hkk1, hE5, hE6, hE0, hE1, hBA⟩ := hI
    refine tc_pre hBA.sat ?_
    clear hBA
    refine tc_env (d := 5) hE5 ?_; refine tc_env (d := 6) hE6 ?_; refine tc_env (d := 0) hE0 ?_; refine tc_env (d := 1) hE1 ?_
    clear hE5 hE6 hE0 hE1
    refine tc_seq ?_; refine sr ?_; refine tlm ?_; refine tlm ?_; refine tv (o_len Try.underlying53 rfl) ?_; refine tv (o_lss rfl rfl) ?_; refine nq ?_; refine tc_cond rfl (fun h => ?_) (fun h => ?_)
    · have hi : i < l.length := by first | omega | (simp at h; omega)
      obtain ⟨x, hx1⟩ : ∃ x, l[i] = x := ⟨_, rfl⟩
      obtain ⟨x1, x2, x3⟩ := hl x (hx1 ▸ List.getElem_mem hi)
      obtain ⟨p, hp9⟩ := Int.eq_ofNat_of_zero_le x2
      obtain ⟨m, hm9⟩ := Int.eq_ofNat_of_zero_le (show 0 ≤ x.2 by omega)
      obtain rfl : x = ((p : Int), (m : Int)) := Prod.ext hp9 hm9
      simp only at x1 x3
      have hot := olds_take (I := I) hi hx1
      have hol : (oldsL I (l.take i)).length = i := by rw [olds_len, List.length_take]; omega
      have hdl : ((I.drop p).take m).length = m := by rw [List.length_take, List.length_drop]; omega
      refine tc_skip ?_; refine q_then_n ?_; refine tc_seq ?_; refine tc_block ?_; refine tc_regh (S := A) mo (by repeat (first | with_reducible exact dr_refl | apply dr_keep | apply dr_drop)) ?_
      show TH _ _ _ _ _ 29 #[ff,ff,ff,ff,ff,ff,ff,ff,ff,ff,ff,ff,ff,ff,ff,ff,ff,ff,ff,ff,ff,ff,ff,ff,ff,ff,ff,ff,ff] _ _
      refine th_take (i := 0) (listed' := #[tt,ff,ff,ff,ff,ff,ff,ff,ff,ff,ff,ff,ff,ff,ff,ff,ff,ff,ff,ff,ff,ff,ff,ff,ff,ff,ff,ff,ff]) rfl (by kernel_rfl) (by kernel_rfl) (by kernel_rfl) rfl rfl (o_move (by conv => lhs; whnf)) ?_; refine th_take (i := 1) (listed' := #[tt,tt,ff,ff,ff,ff,ff,ff,ff,ff,ff,ff,ff,ff,ff,ff,ff,ff,ff,ff,ff,ff,ff,ff,ff,ff,ff,ff,ff]) rfl (by kernel_rfl) (by kernel_rfl) (by kernel_rfl) rfl rfl (o_move (by conv => lhs; whnf)) ?_; refine th_take (i := 2) (listed' := #[tt,tt,tt,ff,ff,ff,ff,ff,ff,ff,ff,ff,ff,ff,ff,ff,ff,ff,ff,ff,ff,ff,ff,ff,ff,ff,ff,ff,ff]) rfl (by kernel_rfl) (by kernel_rfl) (by kernel_rfl) rfl rfl (o_move (by conv => lhs; whnf)) ?_; refine th_take (i := 3) (listed' := #[tt,tt,tt,tt,ff,ff,ff,ff,ff,ff,ff,ff,ff,ff,ff,ff,ff,ff,ff,ff,ff,ff,ff,ff,ff,ff,ff,ff,ff]) rfl (by kernel_rfl) (by kernel_rfl) (by kernel_rfl) rfl rfl (o_ixP (a := b) Try.underlying53 sz74 rfl rfl (by omega) (nn_rs (xs := xcl l) (by repeat (first | assumption | with_reducible exact rs_sl | with_reducible exact rs_pt0 | apply Rs.left)) (fun _ => by rw [xcl_len]; omega))) ?_; refine th_take (i := 4) (listed' := #[tt,tt,tt,tt,tt,ff,ff,ff,ff,ff,ff,ff,ff,ff,ff,ff,ff,ff,ff,ff,ff,ff,ff,ff,ff,ff,ff,ff,ff]) rfl (by kernel_rfl) (by kernel_rfl) (by kernel_rfl) rfl rfl (o_faP (a := b) (m := 0) (o := 0) Try.underlying74 rfl rfl sz3 rfl (nn_rs (xs := xcl l) (by repeat (first | assumption | with_reducible exact rs_sl | with_reducible exact rs_pt0 | apply Rs.left)) (fun _ => by rw [xcl_len]; omega))) ?_
      refine th_take (i := 5) (listed' := #[tt,tt,tt,tt,tt,tt,ff,ff,ff,ff,ff,ff,ff,ff,ff,ff,ff,ff,ff,ff,ff,ff,ff,ff,ff,ff,ff,ff,ff]) rfl (by kernel_rfl) (by kernel_rfl) (by kernel_rfl) rfl rfl (o_ldP (a := b) (xs := xcl l) p3 rfl (by repeat (first | assumption | with_reducible exact rs_sl | with_reducible exact rs_pt0 | apply Rs.left)) (xcl_f (by omega)).1) ?_; refine th_env (d := 18) (v := .int .i64 (p : Nat)) (by show Value.int .i64 (l[i]).1 = _; rw [hx1]) ?_; refine th_take (i := 6) (listed' := #[tt,tt,tt,tt,tt,tt,tt,ff,ff,ff,ff,ff,ff,ff,ff,ff,ff,ff,ff,ff,ff,ff,ff,ff,ff,ff,ff,ff,ff]) rfl (by kernel_rfl) (by kernel_rfl) (by kernel_rfl) rfl rfl (o_move (by conv => lhs; whnf)) ?_; refine th_take (i := 7) (listed' := #[tt,tt,tt,tt,tt,tt,tt,tt,ff,ff,ff,ff,ff,ff,ff,ff,ff,ff,ff,ff,ff,ff,ff,ff,ff,ff,ff,ff,ff]) rfl (by kernel_rfl) (by kernel_rfl) (by kernel_rfl) rfl rfl (o_move (by conv => lhs; whnf)) ?_; refine th_take (i := 8) (listed' := #[tt,tt,tt,tt,tt,tt,tt,tt,tt,ff,ff,ff,ff,ff,ff,ff,ff,ff,ff,ff,ff,ff,ff,ff,ff,ff,ff,ff,ff]) rfl (by kernel_rfl) (by kernel_rfl) (by kernel_rfl) rfl rfl (o_move (by conv => lhs; whnf)) ?_; refine th_take (i := 9) (listed' := #[tt,tt,tt,tt,tt,tt,tt,tt,tt,tt,ff,ff,ff,ff,ff,ff,ff,ff,ff,ff,ff,ff,ff,ff,ff,ff,ff,ff,ff]) rfl (by kernel_rfl) (by kernel_rfl) (by kernel_rfl) rfl rfl (o_ixP (a := b) Try.underlying53 sz74 rfl rfl (by omega) (nn_rs (xs := xcl l) (by repeat (first | assumption | with_reducible exact rs_sl | with_reducible exact rs_pt0 | apply Rs.left)) (fun _ => by rw [xcl_len]; omega))) ?_
      refine th_take (i := 10) (listed' := #[tt,tt,tt,tt,tt,tt,tt,tt,tt,tt,tt,ff,ff,ff,ff,ff,ff,ff,ff,ff,ff,ff,ff,ff,ff,ff,ff,ff,ff]) rfl (by kernel_rfl) (by kernel_rfl) (by kernel_rfl) rfl rfl (o_faP (a := b) (m := 0) (o := 0) Try.underlying74 rfl rfl sz3 rfl (nn_rs (xs := xcl l) (by repeat (first | assumption | with_reducible exact rs_sl | with_reducible exact rs_pt0 | apply Rs.left)) (fun _ => by rw [xcl_len]; omega))) ?_; refine th_take (i := 11) (listed' := #[tt,tt,tt,tt,tt,tt,tt,tt,tt,tt,tt,tt,ff,ff,ff,ff,ff,ff,ff,ff,ff,ff,ff,ff,ff,ff,ff,ff,ff]) rfl (by kernel_rfl) (by kernel_rfl) (by kernel_rfl) rfl rfl (o_ldP (a := b) (xs := xcl l) p3 rfl (by repeat (first | assumption | with_reducible exact rs_sl | with_reducible exact rs_pt0 | apply Rs.left)) (xcl_f (by omega)).1) ?_; refine th_env (d := 24) (v := .int .i64 (p : Nat)) (by show Value.int .i64 (l[i]).1 = _; rw [hx1]) ?_; refine th_take (i := 12) (listed' := #[tt,tt,tt,tt,tt,tt,tt,tt,tt,tt,tt,tt,tt,ff,ff,ff,ff,ff,ff,ff,ff,ff,ff,ff,ff,ff,ff,ff,ff]) rfl (by kernel_rfl) (by kernel_rfl) (by kernel_rfl) rfl rfl (o_move (by conv => lhs; whnf)) ?_; refine th_take (i := 13) (listed' := #[tt,tt,tt,tt,tt,tt,tt,tt,tt,tt,tt,tt,tt,tt,ff,ff,ff,ff,ff,ff,ff,ff,ff,ff,ff,ff,ff,ff,ff]) rfl (by kernel_rfl) (by kernel_rfl) (by kernel_rfl) rfl rfl (o_move (by conv => lhs; whnf)) ?_; refine th_take (i := 14) (listed' := #[tt,tt,tt,tt,tt,tt,tt,tt,tt,tt,tt,tt,tt,tt,tt,ff,ff,ff,ff,ff,ff,ff,ff,ff,ff,ff,ff,ff,ff]) rfl (by kernel_rfl) (by kernel_rfl) (by kernel_rfl) rfl rfl (o_ixP (a := b) Try.underlying53 sz74 rfl rfl (by omega) (nn_rs (xs := xcl l) (by repeat (first | assumption | with_reducible exact rs_sl | with_reducible exact rs_pt0 | apply Rs.left)) (fun _ => by rw [xcl_len]; omega))) ?_
      refine th_take (i := 15) (listed' := #[tt,tt,tt,tt,tt,tt,tt,tt,tt,tt,tt,tt,tt,tt,tt,tt,ff,ff,ff,ff,ff,ff,ff,ff,ff,ff,ff,ff,ff]) rfl (by kernel_rfl) (by kernel_rfl) (by kernel_rfl) rfl rfl (o_faP (a := b) (m := 0) (o := 0) Try.underlying74 rfl rfl sz3 rfl (nn_rs (xs := xcl l) (by repeat (first | assumption | with_reducible exact rs_sl | with_reducible exact rs_pt0 | apply Rs.left)) (fun _ => by rw [xcl_len]; omega))) ?_; refine th_take (i := 16) (listed' := #[tt,tt,tt,tt,tt,tt,tt,tt,tt,tt,tt,tt,tt,tt,tt,tt,tt,ff,ff,ff,ff,ff,ff,ff,ff,ff,ff,ff,ff]) rfl (by kernel_rfl) (by kernel_rfl) (by kernel_rfl) rfl rfl (o_ldP (a := b) (xs := xcl l) p3 rfl (by repeat (first | assumption | with_reducible exact rs_sl | with_reducible exact rs_pt0 | apply Rs.left)) (xcl_f (by omega)).1) ?_; refine th_env (d := 29) (v := .int .i64 (p : Nat)) (by show Value.int .i64 (l[i]).1 = _; rw [hx1]) ?_; refine th_take (i := 17) (listed' := #[tt,tt,tt,tt,tt,tt,tt,tt,tt,tt,tt,tt,tt,tt,tt,tt,tt,tt,ff,ff,ff,ff,ff,ff,ff,ff,ff,ff,ff]) rfl (by kernel_rfl) (by kernel_rfl) (by kernel_rfl) rfl rfl (o_move (by conv => lhs; whnf)) ?_; refine th_take (i := 18) (listed' := #[tt,tt,tt,tt,tt,tt,tt,tt,tt,tt,tt,tt,tt,tt,tt,tt,tt,tt,tt,ff,ff,ff,ff,ff,ff,ff,ff,ff,ff]) rfl (by kernel_rfl) (by kernel_rfl) (by kernel_rfl) rfl rfl (o_move (by conv => lhs; whnf)) ?_; refine th_take (i := 19) (listed' := #[tt,tt,tt,tt,tt,tt,tt,tt,tt,tt,tt,tt,tt,tt,tt,tt,tt,tt,tt,tt,ff,ff,ff,ff,ff,ff,ff,ff,ff]) rfl (by kernel_rfl) (by kernel_rfl) (by kernel_rfl) rfl rfl (o_ixP (a := b) Try.underlying53 sz74 rfl rfl (by omega) (nn_rs (xs := xcl l) (by repeat (first | assumption | with_reducible exact rs_sl | with_reducible exact rs_pt0 | apply Rs.left)) (fun _ => by rw [xcl_len]; omega))) ?_
      refine th_take (i := 20) (listed' := #[tt,tt,tt,tt,tt,tt,tt,tt,tt,tt,tt,tt,tt,tt,tt,tt,tt,tt,tt,tt,tt,ff,ff,ff,ff,ff,ff,ff,ff]) rfl (by kernel_rfl) (by kernel_rfl) (by kernel_rfl) rfl rfl (o_faP (a := b) (m := 0) (o := 1) Try.underlying74 rfl rfl sz3 rfl (nn_rs (xs := xcl l) (by repeat (first | assumption | with_reducible exact rs_sl | with_reducible exact rs_pt0 | apply Rs.left)) (fun _ => by rw [xcl_len]; omega))) ?_; refine th_take (i := 21) (listed' := #[tt,tt,tt,tt,tt,tt,tt,tt,tt,tt,tt,tt,tt,tt,tt,tt,tt,tt,tt,tt,tt,tt,ff,ff,ff,ff,ff,ff,ff]) rfl (by kernel_rfl) (by kernel_rfl) (by kernel_rfl) rfl rfl (o_ldP (a := b) (xs := xcl l) p3 rfl (by repeat (first | assumption | with_reducible exact rs_sl | with_reducible exact rs_pt0 | apply Rs.left)) (xcl_f (by omega)).2) ?_; refine th_env (d := 34) (v := .int .i64 (m : Nat)) (by show Value.int .i64 (l[i]).2 = _; rw [hx1]) ?_; refine th_take (i := 22) (listed' := #[tt,tt,tt,tt,tt,tt,tt,tt,tt,tt,tt,tt,tt,tt,tt,tt,tt,tt,tt,tt,tt,tt,tt,ff,ff,ff,ff,ff,ff]) rfl (by kernel_rfl) (by kernel_rfl) (by kernel_rfl) rfl rfl (by first | exact o_addI rfl rfl (by omega) | exact o_add rfl rfl) ?_; refine th_env (d := 35) (v := .int .i64 ((p + m : Nat) : Int)) (by first | rfl | (show Value.int .i64 _ = _; congr 1; omega)) ?_; refine th_take (i := 23) (listed' := #[tt,tt,tt,tt,tt,tt,tt,tt,tt,tt,tt,tt,tt,tt,tt,tt,tt,tt,tt,tt,tt,tt,tt,tt,ff,ff,ff,ff,ff]) rfl (by kernel_rfl) (by kernel_rfl) (by kernel_rfl) rfl rfl (o_slice (l := p) (h := p + m) Try.underlying60 sz5 rfl (bnd_nat rfl) (bnd_nat rfl) (by omega) (by omega)) ?_
      refine th_env (d := 36) (v := .slice (cutAddr a c p 1) m (c - p)) (by show Value.slice (cutAddr a c p 1) (p + m - p) (c - p) = _; rw [show p + m - p = m by omega]) ?_; refine th_one (i := 24) (by kernel_rfl) ?_; refine oh_c (i := 24) (listed' := #[tt,tt,tt,tt,tt,tt,tt,tt,tt,tt,tt,tt,tt,tt,tt,tt,tt,tt,tt,tt,tt,tt,tt,tt,tt,ff,ff,ff,ff]) rfl rfl rfl (o_call bd59 rfl (CopyBytes_c (xs := (I.drop p).take m) (hr := by repeat (first | exact rs_mid (l := p) (m := m) hI (by omega) | apply Rs.left)) (hm := hdl))) ?_; rintro _ _ ⟨a37, c37, rfl, hc37, rfl⟩; refine ⟨by repeat (first | with_reducible exact dr_refl | apply dr_keep | apply dr_drop), ?_⟩; refine th_take (i := 25) (listed' := #[tt,tt,tt,tt,tt,tt,tt,tt,tt,tt,tt,tt,tt,tt,tt,tt,tt,tt,tt,tt,tt,tt,tt,tt,tt,tt,ff,ff,ff]) rfl (by kernel_rfl) (by kernel_rfl) (by kernel_rfl) rfl rfl (o_bS (l := [_, _]) (pv_cons (by conv => lhs; whnf) (pv_cons (by conv => lhs; whnf) pv_nil)) Try.underlying70 z70 (pl70 Try.underlying70) rfl) ?_; refine th_one (i := 26) (by kernel_rfl) ?_; refine oh_x (i := 26) (listed' := #[tt,tt,tt,tt,tt,tt,tt,tt,tt,tt,tt,tt,tt,tt,tt,tt,tt,tt,tt,tt,tt,tt,tt,tt,tt,tt,tt,ff,ff]) rfl rfl rfl (o_buildSliceK (k := 2) (l := [.int .i64 ((p : Nat) : Int), (.slice a37 m c37)]) Try.underlying63 sz70 z70 rfl rfl (by decide)) ?_; rintro _ _ ⟨b39, rfl, rfl⟩; refine ⟨by repeat (first | with_reducible exact dr_refl | apply dr_keep | apply dr_drop), ?_⟩; refine th_one (i := 27) (by kernel_rfl) ?_
      refine oh_x (i := 27) (listed' := #[tt,tt,tt,tt,tt,tt,tt,tt,tt,tt,tt,tt,tt,tt,tt,tt,tt,tt,tt,tt,tt,tt,tt,tt,tt,tt,tt,tt,ff]) rfl rfl rfl (o_apB Try.underlying63 Try.underlying63 sz70 by70 z70 rfl (by decide) (by decide) rfl rfl rfl (by repeat (first | with_reducible exact ct_here | apply ct_left)) rfl rfl (by omega) (show _ = kcl (oldsL I (l.take (i + 1))) (vs ++ [(.slice a37 m c37)]) by rw [hot, kcl_snoc (by omega)])) ?_; rintro _ _ ⟨a40, c40, rfl, hc40, rfl⟩; refine ⟨by repeat (first | with_reducible exact dr_refl | apply dr_keep | apply dr_drop), ?_⟩
      have hps : Parts (vs ++ [(.slice a37 m c37)]) ((oldsL I (l.take (i + 1))).map (·.2)) = Parts vs ((oldsL I (l.take i)).map (·.2)) * Sl 1 (.slice a37 m c37) m (bys ((I.drop p).take m)) := by rw [hot, List.map_append]; exact (parts_snoc (x := (I.drop p).take m) (by rw [List.length_map, hol]; omega)).trans (by rw [hdl])
      refine th_eq (show _ = A * Parts (vs ++ [(.slice a37 m c37)]) ((oldsL I (l.take (i + 1))).map (·.2)) * Sl 2 (.slice a40 (i + 1) c40) (i + 1) (kcl (oldsL I (l.take (i + 1))) (vs ++ [(.slice a37 m c37)])) by rw [hps]; ac_rfl) ?_; refine th_take (i := 28) (listed' := #[tt,tt,tt,tt,tt,tt,tt,tt,tt,tt,tt,tt,tt,tt,tt,tt,tt,tt,tt,tt,tt,tt,tt,tt,tt,tt,tt,tt,tt]) rfl (by kernel_rfl) (by kernel_rfl) (by kernel_rfl) rfl rfl (o_assign (by conv => lhs; whnf)) ?_; refine th_done (by kernel_rfl) ?_; refine q_block_n (q_then_n ?_); refine tc_reg ?_; refine tlm ?_; refine tv (by first | exact o_addI rfl rfl (by omega) | exact o_add rfl rfl) ?_; refine tla ?_; refine nq ?_; exact ⟨_, by omega, i + 1, vs ++ [(.slice a37 m c37)], a40, c40, by omega, by rw [List.length_append, hp1]; rfl, hc40, rfl, rfl, rfl, rfl, rfl, (by repeat (first | with_reducible exact dr_refl | apply dr_keep | apply dr_drop))⟩
    · obtain rfl : i = n := by first | omega | (simp at h; omega)
      have htk : l.take i = l := List.take_of_length_le (by omega)
      refine tc_exit ?_; refine q_then_e (q_then_e (q_block_x (q_then_n ?_))); refine sr ?_; refine tlm ?_; refine tla ?_; refine nq ?_; refine tc_ret ?_
      rw [htk]
      exact ⟨.slice a5 i c5, _, res1 rfl rfl, fun _ _ h => h, a5, c5, vs, rfl, hp2, by rw [olds_len]; omega, rfl⟩
set_option maxRecDepth 20000 in
set_option maxHeartbeats 2000000 in
theorem sameRecords_c {A : SP} {a b : Option Addr} {n m c e : Nat} {La Lb : List (Nat × List Nat)} {va vb : List Value} (ha : Rs A a (kcl La va) := by repeat (first | assumption | with_reducible exact rs_sl | with_reducible exact rs_pt0 | exact rs_none | apply Rs.left)) (hb : Rs A b (kcl Lb vb) := by repeat (first | assumption | with_reducible exact rs_sl | with_reducible exact rs_pt0 | exact rs_none | apply Rs.left)) (hva : va.length = La.length := by assumption) (hvb : vb.length = Lb.length := by assumption) (hna : La.length = n := by first | assumption | rfl) (hnb : Lb.length = m := by first | assumption | rfl) (hpa : PsR A La va) (hpb : PsR A Lb vb) (hbn : n ≤ 4611686018427387904 := by omega) :
    Fn Try.prog 27 #[.slice a n c, .slice b m e] (A) (fun r B => r = .bool (decide (La = Lb)) ∧ A = B) := by
  refine fn_enterW (args := [.slice a n c, .slice b m e]) Try.func27 rfl Try.ntmps27 (by simp) ?_; refine sr ?_; refine tla ?_; refine nq ?_; refine tc_seq ?_; refine sr ?_; refine tlm ?_; refine tv (o_len Try.underlying63 rfl) ?_; refine tlm ?_; refine tv (o_len Try.underlying63 rfl) ?_; refine tv (o_nei rfl rfl) ?_; refine nq ?_; refine tc_cond rfl (fun h => ?_) (fun h => ?_)
  · try simp only [lv1, lv2, lv3, lv4, lv5, lv6, Bool.not_true, Bool.not_false] at h
    refine sr ?_; refine tla ?_; refine nq ?_; refine tc_ret ?_; refine q_then_r ?_
    have e9 : decide (La = Lb) = false := decide_eq_false fun e => by subst e; first | omega | (simp at h; omega)
    rw [e9]
    exact ⟨.bool false, A, res1 rfl rfl, Dr.sat (by repeat (first | with_reducible exact dr_refl | apply dr_keep | apply dr_drop)), rfl, rfl⟩
  · obtain rfl : n = m := by first | omega | (simp at h; omega)
    refine tc_skip ?_; refine q_then_n ?_; refine tc_seq ?_; refine sr ?_; refine tla ?_; refine nq ?_; refine tc_block ?_; refine tc_loop (fun kk ρ BB => ∃ (i : Nat), (i ≤ n) ∧ (La.take i = Lb.take i) ∧ kk = n - i ∧ ρ 5 = .int .i64 (i : Nat) ∧ ρ 0 = .slice a n c ∧ ρ 1 = .slice b n e ∧ BB = A) (m := n - (0)) ?_ ?_
    · exact ⟨0, by omega, rfl, rfl, rfl, rfl, rfl, rfl⟩
    · intro k ρ B hI
      obtain ⟨i, hp0, hp1, hkk1, hE5, hE0, hE1, hBA⟩ := hI
      obtain rfl := hBA.symm
      refine tc_env (d := 5) hE5 ?_; refine tc_env (d := 0) hE0 ?_; refine tc_env (d := 1) hE1 ?_
      clear hE5 hE0 hE1
      refine tc_seq ?_; refine sr ?_; refine tlm ?_; refine tlm ?_; refine tv (o_len Try.underlying63 rfl) ?_; refine tv (o_lss rfl rfl) ?_; refine nq ?_; refine tc_cond rfl (fun h => ?_) (fun h => ?_)
      · have hi : i < La.length := by first | omega | (simp at h; omega)
        have hj : i < Lb.length := by omega
        obtain ⟨xb, xc, hv, hrb, hlb⟩ := hpa i hi
        obtain ⟨yb, yc, hu, hry, hly⟩ := hpb i hj
        obtain ⟨x, hx⟩ : ∃ x, La.getD i (0, []) = x := ⟨_, rfl⟩
        obtain ⟨y, hy⟩ : ∃ y, Lb.getD i (0, []) = y := ⟨_, rfl⟩
        have hka := kcl_f hva hi
        have hkb := kcl_f hvb hj
        rw [hx] at hv hrb hlb hka
        rw [hy] at hu hry hly hkb
        rw [hv] at hka
        rw [hu] at hkb
        refine tc_skip ?_; refine q_then_n ?_; refine tc_seq ?_; refine tc_block ?_; refine tc_seq ?_; refine tc_cut (fun ρ BB => ∃ (bq : Bool), (bq = !decide (La.getD i (0, []) = Lb.getD i (0, []))) ∧ ρ 41 = .bool bq ∧ ρ 0 = .slice a n c ∧ ρ 1 = .slice b n e ∧ ρ 5 = .int .i64 (i : Nat) ∧ BB = A) ?_ ?_
        · skip
          refine tc_regq mo (by kernel_rfl) ?_; refine ql_v rfl (o_move (by conv => lhs; whnf)) ?_; refine ql_v rfl (o_move (by conv => lhs; whnf)) ?_; refine ql_v rfl (o_ixP (a := a) Try.underlying63 sz70 rfl rfl (by omega) (nn_rs (xs := kcl La va) (by repeat (first | assumption | with_reducible exact rs_sl | with_reducible exact rs_pt0 | apply Rs.left)) (fun _ => by rw [kcl_len (by assumption)]; omega))) ?_; refine ql_v rfl (o_faP (a := a) (m := 0) (o := 0) Try.underlying70 rfl rfl sz3 rfl (nn_rs (xs := kcl La va) (by repeat (first | assumption | with_reducible exact rs_sl | with_reducible exact rs_pt0 | apply Rs.left)) (fun _ => by rw [kcl_len (by assumption)]; omega))) ?_; refine ql_v rfl (o_ldP (a := a) (xs := kcl La va) p3 rfl (by repeat (first | assumption | with_reducible exact rs_sl | with_reducible exact rs_pt0 | apply Rs.left)) hka.1) ?_; refine ql_v rfl (o_move (by conv => lhs; whnf)) ?_; refine ql_v rfl (o_move (by conv => lhs; whnf)) ?_; refine ql_v rfl (o_ixP (a := b) Try.underlying63 sz70 rfl rfl (by omega) (nn_rs (xs := kcl Lb vb) (by repeat (first | assumption | with_reducible exact rs_sl | with_reducible exact rs_pt0 | apply Rs.left)) (fun _ => by rw [kcl_len (by assumption)]; omega))) ?_; refine ql_v rfl (o_faP (a := b) (m := 0) (o := 0) Try.underlying70 rfl rfl sz3 rfl (nn_rs (xs := kcl Lb vb) (by repeat (first | assumption | with_reducible exact rs_sl | with_reducible exact rs_pt0 | apply Rs.left)) (fun _ => by rw [kcl_len (by assumption)]; omega))) ?_
          refine ql_v rfl (o_ldP (a := b) (xs := kcl Lb vb) p3 rfl (by repeat (first | assumption | with_reducible exact rs_sl | with_reducible exact rs_pt0 | apply Rs.left)) hkb.1) ?_; refine ql_v rfl (o_nei rfl rfl) ?_; refine ql_v rfl (o_move (by conv => lhs; whnf)) ?_; refine ql_bool (d := 28) rfl (fun h => ?_) (fun h => ?_)
          · have hne : x ≠ y := fun e => by subst e; simp at h
            refine ql_skip rfl ?_; refine ql_skip rfl ?_; refine ql_skip rfl ?_; refine ql_skip rfl ?_; refine ql_skip rfl ?_; refine ql_skip rfl ?_; refine ql_skip rfl ?_; refine ql_skip rfl ?_; refine ql_skip rfl ?_; refine ql_skip rfl ?_; refine ql_skip rfl ?_; refine ql_skip rfl ?_; refine ql_v rfl (o_pick_t rfl (by conv => lhs; whnf)) ?_; refine ql_nil ?_; exact ⟨_, by rw [hx, hy]; first | (rw [decide_eq_false hne]; rfl) | (congr 1; rw [decide_eq_decide]; exact ⟨fun h9 => Prod.ext h1eq h9, fun h9 => by rw [h9]⟩), rfl, rfl, rfl, rfl, rfl⟩
          · have h1eq : x.1 = y.1 := by first | (have h9 := of_decide_eq_false h; omega) | (simp at h; omega)
            refine ql_v rfl (o_move (by conv => lhs; whnf)) ?_; refine ql_v rfl (o_move (by conv => lhs; whnf)) ?_; refine ql_v rfl (o_ixP (a := a) Try.underlying63 sz70 rfl rfl (by omega) (nn_rs (xs := kcl La va) (by repeat (first | assumption | with_reducible exact rs_sl | with_reducible exact rs_pt0 | apply Rs.left)) (fun _ => by rw [kcl_len (by assumption)]; omega))) ?_; refine ql_v rfl (o_faP (a := a) (m := 0) (o := 1) Try.underlying70 rfl rfl sz60 rfl (nn_rs (xs := kcl La va) (by repeat (first | assumption | with_reducible exact rs_sl | with_reducible exact rs_pt0 | apply Rs.left)) (fun _ => by rw [kcl_len (by assumption)]; omega))) ?_; refine ql_v rfl (o_ldP (a := a) (xs := kcl La va) p60 rfl (by repeat (first | assumption | with_reducible exact rs_sl | with_reducible exact rs_pt0 | apply Rs.left)) hka.2) ?_; refine ql_v rfl (o_move (by conv => lhs; whnf)) ?_; refine ql_v rfl (o_move (by conv => lhs; whnf)) ?_; refine ql_v rfl (o_ixP (a := b) Try.underlying63 sz70 rfl rfl (by omega) (nn_rs (xs := kcl Lb vb) (by repeat (first | assumption | with_reducible exact rs_sl | with_reducible exact rs_pt0 | apply Rs.left)) (fun _ => by rw [kcl_len (by assumption)]; omega))) ?_; refine ql_v rfl (o_faP (a := b) (m := 0) (o := 1) Try.underlying70 rfl rfl sz60 rfl (nn_rs (xs := kcl Lb vb) (by repeat (first | assumption | with_reducible exact rs_sl | with_reducible exact rs_pt0 | apply Rs.left)) (fun _ => by rw [kcl_len (by assumption)]; omega))) ?_
            refine ql_v rfl (o_ldP (a := b) (xs := kcl Lb vb) p60 rfl (by repeat (first | assumption | with_reducible exact rs_sl | with_reducible exact rs_pt0 | apply Rs.left)) hkb.2) ?_; refine ql_c rfl (fun w => exec_call bd34 rfl) (EqBytes_c (xs := x.2) (ys := y.2) (h1 := hrb) (h2 := hry) (hx := rfl) (hy := rfl)) ?_; refine ql_v rfl (o_not rfl) ?_; refine ql_v rfl (o_pick_f rfl (by conv => lhs; whnf)) ?_; refine ql_nil ?_; exact ⟨_, by rw [hx, hy]; first | (rw [decide_eq_false hne]; rfl) | (congr 1; rw [decide_eq_decide]; exact ⟨fun h9 => Prod.ext h1eq h9, fun h9 => by rw [h9]⟩), rfl, rfl, rfl, rfl, rfl⟩
        · intro ρ B hI
          obtain ⟨bq, hbq0, hE41, hE0, hE1, hE5, hBA⟩ := hI
          obtain rfl := hBA.symm
          refine q_then_n ?_; refine tc_env (d := 41) hE41 ?_; refine tc_env (d := 0) hE0 ?_; refine tc_env (d := 1) hE1 ?_; refine tc_env (d := 5) hE5 ?_
          clear hE41 hE0 hE1 hE5
          refine tc_cond rfl (fun h => ?_) (fun h => ?_)
          · have hne : La ≠ Lb := fun e9 => by rw [h, e9] at hbq0; simp at hbq0
            refine sr ?_; refine tla ?_; refine nq ?_; refine tc_ret ?_; refine q_block_r (q_then_r (q_then_r (q_block_r (q_then_r ?_))))
            have e9 : decide (La = Lb) = false := decide_eq_false hne
            rw [e9]
            exact ⟨.bool false, A, res1 rfl rfl, Dr.sat (by repeat (first | with_reducible exact dr_refl | apply dr_keep | apply dr_drop)), rfl, rfl⟩
          · have heq : La.getD i (0, []) = Lb.getD i (0, []) := by rw [h] at hbq0; simpa using hbq0
            refine tc_skip ?_; refine q_block_n (q_then_n ?_); refine tc_reg ?_; refine tlm ?_; refine tv (by first | exact o_addI rfl rfl (by omega) | exact o_add rfl rfl) ?_; refine tla ?_; refine nq ?_; exact ⟨_, by omega, i + 1, by omega, list_step (d := (0, [])) hp1 (by omega) (by omega) heq, rfl, rfl, rfl, rfl, rfl⟩
      · obtain rfl : i = n := by first | omega | (simp at h; omega)
        refine tc_exit ?_; refine q_then_e (q_then_e (q_block_x (q_then_n ?_))); refine sr ?_; refine tla ?_; refine nq ?_; refine tc_ret ?_
        have e9 : decide (La = Lb) = true := decide_eq_true (by rw [List.take_of_length_le (by omega), List.take_of_length_le (by omega)] at hp1; exact hp1)
        rw [e9]
        exact ⟨.bool true, A, res1 rfl rfl, Dr.sat (by repeat (first | with_reducible exact dr_refl | apply dr_keep | apply dr_drop)), rfl, rfl⟩
end Go.Vl

set_option linter.unusedVariables false
set_option linter.unusedSimpArgs false
namespace Go.Vl
open Go Go.Proofs
theorem wfd_on {s : DevS} (h : WfD s) : WfD { s with off := false } := ⟨h.pos, h.top, h.line, h.arms, h.after, h.keeps⟩
def kpR (kp : List Int) (i : Nat) : List Int := (kp.take i).map fun x => x % 1000
theorem kpR_zero (kp : List Int) : kpR kp 0 = [] := rfl
theorem kpR_succ {kp : List Int} {i : Nat} (h : i < kp.length) : kpR kp (i + 1) = kpR kp i ++ [kp[i] % 1000] := by
  unfold kpR; rw [List.take_succ_eq_append_getElem h, List.map_append]; rfl
theorem kpR_len {kp : List Int} {i : Nat} (h : i ≤ kp.length) : (kpR kp i).length = i := by unfold kpR; rw [List.length_map, List.length_take]; omega
theorem ints_nil : ints [] = [] := rfl
theorem image_w {A R : SP} {C : SP → SP} {d : Nat} {s : DevS} (I : List Nat) (hl : s.ls.length = 16) (hi : imgS s = I) (hc : Ct A (Dev d s) R C := by repeat (first | with_reducible exact ct_here | apply ct_left)) : Fn Try.prog 23 #[.pointer (some ⟨d, 0, none⟩)] A (fun r B => ∃ a c, r = .slice a 1024 c ∧ 1024 ≤ c ∧ B = A * Sl 1 (.slice a 1024 c) 1024 (bys I)) := by
  have h := Image_c hc
  rw [hl, hi] at h
  exact h
theorem out_take {a b n : Nat} {I J : List Nat} (h : Out a b I J) (hn : n ≤ a) : I.take n = J.take n := by
  have := out_sub (p := 0) (m := n) h (.inl (by omega))
  simpa using this
theorem eq_take {A : SP} {a : Option Addr} {n : Nat} {I : List Nat} (h : Rs A a (bys I)) : Rs A a (bys (I.take n)) := by
  have h2 := h.sub n
  rwa [bys_takeG] at h2
attribute [local irreducible] crk crL crc Sl pt ro Dev imgS recS readS recsF rdW rdO rkT Parts rvl recordsS mdI mdK rise mds writeS rollS clearS oldsL kcl xcl lensX lst brL brX fiveX kpR
end Go.Vl

set_option linter.unusedVariables false
set_option linter.unusedSimpArgs false
namespace Go.Vl
open Go Go.Proofs
theorem flatG {α : Type} {f : α → List Value} : ∀ {Cs : List (List Value)} {xs : List α} (_ : Cs.length = xs.length) (_ : ∀ i (h : i < xs.length) (h' : i < Cs.length), Cs[i] = f xs[i]), Cs.flatten = xs.flatMap f
  | [], [], _, _ => rfl
  | c :: Cs, x :: xs, hl, h => by
    have h0 := h 0 (by simp) (by simp)
    simp only [List.getElem_cons_zero] at h0
    rw [List.flatten_cons, h0, flatG (f := f) (Cs := Cs) (xs := xs) (by simpa using hl) (fun i hi hi' => h (i + 1) (by simpa using hi) (by simpa using hi')), List.flatMap_cons]
theorem two_ofG {α : Type} : ∀ {l : List α}, l.length = 2 → ∃ a b, l = [a, b]
  | [a, b], _ => ⟨a, b, rfl⟩
theorem five_ofG {α : Type} : ∀ {l : List α}, l.length = 5 → ∃ a b c d e, l = [a, b, c, d, e]
  | [a, b, c, d, e], _ => ⟨a, b, c, d, e, rfl⟩
theorem four_ofG {α : Type} : ∀ {l : List α}, l.length = 4 → ∃ a b c d, l = [a, b, c, d]
  | [a, b, c, d], _ => ⟨a, b, c, d, rfl⟩
def PXts (A : SP) (cs : List Value) (es : List (Int × Int)) : Prop := ∃ a c, cs = [.slice a es.length c] ∧ es.length ≤ c ∧ es.length ≤ 8796093022208 ∧ Rs A a (xcl es) ∧ ∀ x ∈ es, XW x
/-- One arm of a story. -/
structure Ar1 where
  af : Int
  a : Option Addr
  c : Nat
  kp : List Int
def Ar1.cells (x : Ar1) : List Value := [.int .i64 x.af, .slice x.a x.kp.length x.c]
theorem acs_mapG : ∀ (xs : List Ar1), acs (xs.map fun x => .slice x.a x.kp.length x.c) (xs.map fun x => (x.af, x.kp)) = xs.flatMap Ar1.cells
  | [] => rfl
  | x :: xs => by
    simp only [List.map_cons, List.flatMap_cons]
    show _ :: _ :: acs _ _ = _
    rw [acs_mapG xs]; rfl
def PArs (A : SP) (cs : List Value) (p : List Value × List (Int × List Int)) : Prop := ∃ a c, cs = [.slice a p.2.length c] ∧ p.2.length ≤ c ∧ p.2.length ≤ 4398046511104 ∧ RdA A a p.1 p.2 ∧ ∀ x ∈ p.2, (-9223372036854775808 ≤ x.1 ∧ x.1 ≤ 9223372036854775807) ∧ x.2.length ≤ 17592186043904 ∧ ∀ k ∈ x.2, -9223372036854775808 ≤ k ∧ k ≤ 9223372036854775807
/-- One change of a story. -/
structure Chg where
  q : Int
  p : Int
  a : Option Addr
  c : Nat
  b : List Nat
  fl : Bool
  fe : Bool
def Chg.cells (x : Chg) : List Value := [.int .i64 x.q, .int .i64 x.p, .slice x.a x.b.length x.c, .bool x.fl, .bool x.fe]
structure ChgW (A : SP) (x : Chg) : Prop where
  q : (-9223372036854775808 ≤ x.q ∧ x.q ≤ 9223372036854775807)
  p : (-9223372036854775808 ≤ x.p ∧ x.p ≤ 9223372036854775807)
  cap : x.b.length ≤ x.c
  len : x.b.length ≤ 140737488351232
  rs : Rs A x.a (bys x.b)
  by_ : ∀ y ∈ x.b, y < 256
theorem ChgW.left {A X : SP} {x : Chg} (h : ChgW A x) : ChgW (A * X) x := ⟨h.q, h.p, h.cap, h.len, h.rs.left, h.by_⟩
def chl (l : List Chg) : List Value := l.flatMap Chg.cells
def PChs (A : SP) (cs : List Value) (l : List Chg) : Prop := ∃ a c, cs = [.slice a l.length c] ∧ l.length ≤ c ∧ l.length ≤ 2932031007403 ∧ Rs A a (chl l) ∧ ∀ x ∈ l, ChgW A x
/-- A story. -/
structure Stx where
  es : List (Int × Int)
  ch : List Chg
  kvs : List Value
  ars : List (Int × List Int)
  lg : Bool
def PSto (A : SP) (cs : List Value) (t : Stx) : Prop := ∃ v1 v2 v3, cs = [v1, v2, v3, .bool t.lg] ∧ PXts A [v1] t.es ∧ PChs A [v2] t.ch ∧ PArs A [v3] (t.kvs, t.ars)
end Go.Vl

set_option linter.unusedVariables false
set_option linter.unusedSimpArgs false
namespace Go.Vl
open Go Go.Proofs
theorem backS_phi (x : Nat × List Nat) (s : DevS) : phi (backS x s).2 ≤ phi s := by
  unfold backS
  have h1 := sto_phi (x.1 : Nat) x.2 s
  split
  · exact h1
  · exact Nat.le_trans (flL_phi _ _ _) h1
theorem backF_phi : ∀ (l : List (Nat × List Nat)) (s : DevS), phi (backF l s).2 ≤ phi s
  | [], s => Nat.le_refl _
  | x :: l, s => by
    have h1 := backS_phi x s
    show phi (if (backS x s).1 ≠ 0 then backS x s else backF l (backS x s).2).2 ≤ _
    split
    · exact h1
    · exact Nat.le_trans (backF_phi l _) h1
theorem rollS_phi (at_ sz : Nat) (s : DevS) : phi (rollS at_ sz s).2 ≤ phi s := by
  unfold rollS
  have h1 := backF_phi (recordsS at_ sz s).1.reverse s
  have h2 := Nat.le_trans (fe_phi (backF (recordsS at_ sz s).1.reverse s).2) h1
  have h3 := Nat.le_trans (pubP_phi (at_ : Nat) 0 (fe (backF (recordsS at_ sz s).1.reverse s).2).2) h2
  split
  · exact Nat.le_refl _
  · split
    · exact h1
    · split
      · exact h2
      · split
        · exact h3
        · exact h3
/-! ### One operation of a story -/
theorem as_done {L : List (Nat × List Nat)} {I : List Nat} {s : DevS} (hA : AS L I s) : AS L I (doneS s) ∧ (doneS s).ls.length = s.ls.length := by
  rcases done_loss hA.wf hA.poss with ⟨_, h2, h3⟩ | ⟨_, h2⟩
  · refine ⟨⟨doneS_wf hA.wf, by rw [h2]; exact hA.len, fun q l hl => ?_, fun q l hq hl => ?_⟩, by rw [h2]⟩
    · rw [h2] at hl; exact hA.poss q l hl
    · rw [h2] at hl; exact hA.one q l hq hl
  · exact ⟨as_lost h2 hA.len, h2.2.2.2.2⟩
theorem as_fl1 {L : List (Nat × List Nat)} {I : List Nat} {s : DevS} (hA : AS L I s) (p : Int) : AS L I (fl1 p s).2 ∧ (fl1 p s).2.ls.length = s.ls.length := by
  unfold fl1
  split
  · exact ⟨hA, rfl⟩
  · have hg : ∀ (q : Nat) (l' : LineS), (flushS p.toNat s).ls[q]? = some l' → ∃ l : LineS, s.ls[q]? = some l ∧ l'.st = l.st := fun q l' hl' => by
      unfold flushS onLine at hl'
      split at hl'
      · rename_i l0 e
        by_cases h : p.toNat / 64 = q
        · subst h
          have hlt := (List.getElem?_eq_some_iff.1 e).1
          rw [List.getElem?_set_self hlt] at hl'
          exact ⟨l0, e, by rw [← Option.some.inj hl']; rfl⟩
        · rw [List.getElem?_set_ne h] at hl'
          exact ⟨l', hl', rfl⟩
      · exact ⟨l', hl', rfl⟩
    have hln : (flushS p.toNat s).ls.length = s.ls.length := by
      unfold flushS onLine
      split
      · simp
      · rfl
    have hA1 : AS L I (flushS p.toNat s) := ⟨flushS_wf hA.wf, by rw [hln]; exact hA.len, poss_sub hA.poss fun q l' hl' => by
        obtain ⟨l, h1, h2⟩ := hg q l' hl'
        exact ⟨l, h1, fun σ hσ => h2 ▸ hσ⟩, fun q l' hq hl' => by
        obtain ⟨l, h1, h2⟩ := hg q l' hl'
        rw [h2]; exact hA.one q l hq h1⟩
    obtain ⟨h1, h2⟩ := as_done hA1
    exact ⟨h1, by rw [h2, hln]⟩
theorem as_fe {L : List (Nat × List Nat)} {I : List Nat} {s : DevS} (hA : AS L I s) : AS L I (fe s).2 ∧ (fe s).2.ls.length = s.ls.length := by
  unfold fe
  split
  · exact ⟨hA, rfl⟩
  · have hln : (fenceS s).ls.length = s.ls.length := by simp [fenceS]
    have hA1 : AS L I (fenceS s) := ⟨fence_wf hA.wf, by rw [hln]; exact hA.len, poss_sub hA.poss fun q l' hl' => by
        obtain ⟨l, h1, rfl⟩ := fence_get hl'; exact ⟨l, h1, fence_mem⟩, fun q l' hq hl' => by
        obtain ⟨l, h1, rfl⟩ := fence_get hl'
        have h3 := hA.one q l hq h1
        have hwl := hA.wf.line l (List.mem_of_getElem? h1)
        have := hwl.hi
        unfold fenceL
        split
        · simp only [List.length_drop]; omega
        · exact h3⟩
    obtain ⟨h1, h2⟩ := as_done hA1
    exact ⟨h1, by rw [h2, hln]⟩
/-! ### The state behind a Write, changes, and losses -/
/-- What a story's extents are, brought to where they may be. -/
def XIn (x : Int × Int) : Prop := 1 ≤ x.2 ∧ x.2 ≤ 40 ∧ ((64 ≤ x.1 ∧ x.1 + x.2 ≤ 128) ∨ (512 ≤ x.1 ∧ x.1 + x.2 ≤ 1024))
theorem inX_olds {X : List (Int × Int)} (hX : ∀ x ∈ X, XIn x) {x : Int × Int} (hx : x ∈ X) {i : Nat} (h1 : x.1 ≤ i) (h2 : (i : Int) < x.1 + x.2) : InX (oldsL mdI X) i := by
  have h := hX x hx
  have hml := mdI_len
  unfold XIn at h
  refine ⟨_, List.mem_map.2 ⟨x, hx, rfl⟩, by show x.1.toNat ≤ i; omega, ?_⟩
  show i < x.1.toNat + ((mdI.drop x.1.toNat).take x.2.toNat).length
  rw [List.length_take, List.length_drop]
  omega
structure CSt (X : List (Int × Int)) (I : List Nat) (r : Nat) (s : DevS) : Prop where
  ast : AS (oldsL mdI X) I s
  len : s.ls.length = 16
  room : Room r s
theorem cst_le {X : List (Int × Int)} {I : List Nat} {r t : Nat} {s : DevS} (h : CSt X I r s) (ht : t ≤ r) : CSt X I t s := ⟨h.ast, h.len, room_le h.room ht⟩
theorem cst_sto {X : List (Int × Int)} {I : List Nat} {r : Nat} {s s2 : DevS} {e : Int} {b : List Nat} {x : Int × Int} {q : Int} (hX : ∀ x ∈ X, XIn x) (hx : x ∈ X) (h : CSt X I (r + 40) s) (hO : s.off = false) (h1 : x.1 ≤ q) (h2 : q + b.length ≤ x.1 + x.2) (hb : ∀ x ∈ b, x < 256) (hs : sto q b s = (e, s2)) : (e = 0 ∨ e = 5) ∧ s2.off = decide (e = 5) ∧ CSt X I r s2 ∧ phi s2 ≤ phi s := by
  have hxi := hX x hx
  unfold XIn at hxi
  obtain ⟨p, rfl⟩ := Int.eq_ofNat_of_zero_le (show 0 ≤ q by omega)
  have hph := sto_phi (p : Nat) b s
  have hlen := h.len
  have hr0 : Room (r + b.length) s := room_le h.room (by omega)
  obtain ⟨e1, s1, g1, g2⟩ := as_sto (r := r) (p := p) (b := b) h.ast hO (by rw [hlen]; omega) (fun i k1 k2 => inX_olds hX hx (by omega) (by omega)) hb hr0
  rw [g1] at hph
  have hrm := sto_room g1 h.ast.wf hb hr0
  rw [hs] at g1
  obtain ⟨rfl, rfl⟩ := pair_eq g1 rfl
  rcases g2 with ⟨a1, a2, a3, a4, a5, a6⟩ | ⟨a1, a2, a3, a4⟩
  · subst a1
    exact ⟨.inl rfl, by rw [a2]; decide, ⟨a3, by rw [a4]; exact hlen, hrm⟩, hph⟩
  · subst a1
    exact ⟨.inr rfl, by rw [a2]; decide, ⟨a3, by rw [a4]; exact hlen, hrm⟩, hph⟩
theorem cst_fl1 {X : List (Int × Int)} {I : List Nat} {r : Nat} {s s2 : DevS} {p e : Int} (h : CSt X I r s) (hs : fl1 p s = (e, s2)) : CSt X I r s2 ∧ phi s2 ≤ phi s := by
  have h1 := as_fl1 h.ast p
  have h2 := fl1_phi p s
  rw [hs] at h1 h2
  exact ⟨⟨h1.1, by rw [h1.2]; exact h.len, by
    by_cases h0 : rdy s.ls.length s.off p 1 = 0
    · have hp := (rdy0 h0).2.1
      obtain ⟨q, rfl⟩ := Int.eq_ofNat_of_zero_le hp
      exact fl1_room hs h.ast.wf h.room
    · have : s2 = s := by unfold fl1 at hs; rw [if_pos h0] at hs; exact (Prod.mk.inj hs).2.symm
      rw [this]; exact h.room⟩, h2⟩
theorem cst_fe {X : List (Int × Int)} {I : List Nat} {r : Nat} {s s2 : DevS} {e : Int} (h : CSt X I r s) (hs : fe s = (e, s2)) : CSt X I r s2 ∧ phi s2 ≤ phi s := by
  have h1 := as_fe h.ast
  have h2 := fe_phi s
  rw [hs] at h1 h2
  exact ⟨⟨h1.1, by rw [h1.2]; exact h.len, fe_room hs h.ast.wf h.room⟩, h2⟩
/-- The log is empty again. -/
structure Clr (I : List Nat) (s : DevS) : Prop where
  wf : WfD s
  cln : Cln s
  img : imgS s = spl I 128 (le 8 0)
  len : s.ls.length = 16
structure Trn (X : List (Int × Int)) (I : List Nat) (s : DevS) : Prop where
  room : Room 385 s
  ast : (X ≠ [] ∧ AS (oldsL mdI X) I s ∧ s.ls.length = 16) ∨ Clr I s
theorem trn_len {X : List (Int × Int)} {I : List Nat} {s : DevS} (h : Trn X I s) : s.ls.length = 16 := by
  rcases h.ast with h | h
  · exact h.2.2
  · exact h.len
theorem as_on {L : List (Nat × List Nat)} {I : List Nat} {s : DevS} (h : AS L I s) : AS L I { s with off := false } := ⟨wfd_on h.wf, h.len, h.poss, h.one⟩
theorem trn_on {X : List (Int × Int)} {I : List Nat} {s : DevS} (h : Trn X I s) : Trn X I { s with off := false } :=
  ⟨h.room, h.ast.imp (fun h => ⟨h.1, as_on h.2.1, h.2.2⟩) fun h => ⟨wfd_on h.wf, h.cln, h.img, h.len⟩⟩
theorem trn_roll {X : List (Int × Int)} {I : List Nat} {s : DevS} (hm : X.all (mayX 1024 128 384) = true) (hN : needN X ≤ 320) (hI : LogI 384 X I) (hT : Trn X I s) (hO : s.off = false) {k e : Int} {s2 : DevS} (hs : rollS 128 384 s = ((k, e), s2)) :
    (e = 0 ∧ (k = 0 ∨ k = X.length) ∧ s2.off = false ∧ Clr I s2) ∨ (e = 5 ∧ s2.off = true ∧ Trn X I s2 ∧ s2.arms.length < s.arms.length) := by
  have hph := rollS_phi 128 384 s
  rw [hs] at hph
  rcases hT.ast with ⟨hne, hA, hlen⟩ | hC
  · obtain ⟨k1, e1, s1, g1, g2, g3⟩ := as_roll (sz := 384) (by decide) (by decide) (by decide) hm hN hne hI hA hO hlen (room_le hT.room (by omega))
    rw [hs] at g1
    have hp := Prod.mk.inj g1
    have hk := Prod.mk.inj hp.1
    rw [← hp.2, ← hk.1, ← hk.2] at g3
    rw [← hp.2] at g2
    rcases g3 with ⟨a1, a2, a3, a4, a5, a6⟩ | ⟨a1, a2, a3⟩
    · exact .inl ⟨a1, .inr a2, a3, a4, a5, a6, g2⟩
    · have hlt : s2.arms.length < s.arms.length := by
        unfold phi at hph
        rw [hO, a2] at hph
        simp only [if_true] at hph
        rw [if_neg (by decide)] at hph
        omega
      refine .inr ⟨a1, a2, ?_, hlt⟩
      rcases a3 with ⟨a4, a5⟩ | ⟨a4, a5, a6⟩
      · exact ⟨room_cln a5 (by decide), .inl ⟨hne, a4, g2⟩⟩
      · exact ⟨room_cln a5 (by decide), .inr ⟨a4, a5, a6, g2⟩⟩
  · obtain ⟨_, h2, _⟩ := empty_log (sz := 384) (by decide) (by decide) (by decide) hI hC.wf hO hC.len hC.img
    rw [hs] at h2
    have hp := Prod.mk.inj h2
    have hk := Prod.mk.inj hp.1
    rw [hp.2, hk.1, hk.2]
    exact .inl ⟨rfl, .inl rfl, hO, hC⟩
theorem clr_cr {I : List Nat} {s s2 : DevS} {e : Int} (h : Clr I s) (hO : s.off = false) (hs : crS [] s = (e, s2)) : e = 0 ∧ s2.off = true ∧ Clr I { s2 with off := false } := by
  have h1 : crS [] s = (0, goesS [] s) := by
    unfold crS
    rw [if_neg (by rw [hO]; decide), if_neg (by decide)]
  rw [hs] at h1
  obtain ⟨rfl, rfl⟩ := pair_eq h1 rfl
  have hcl := goes_cln (kp := []) h.wf
  exact ⟨rfl, rfl, wfd_on (goesS_wf h.wf), hcl, by
    show imgS (goesS [] s) = _
    rw [goes_single h.cln]; exact h.img, by show (goesS [] s).ls.length = 16; rw [goes_len]; exact h.len⟩
theorem clr_log {X : List (Int × Int)} {I : List Nat} {s : DevS} (hI : LogI 384 X I) (h : Clr I s) (hO : s.off = false) : recordsS 128 384 s = ([], 0) ∧ Out 128 512 (imgS s) mdI := by
  obtain ⟨h1, _, h2⟩ := empty_log (sz := 384) (by decide) (by decide) (by decide) hI h.wf hO h.len h.img
  exact ⟨h1, h2⟩
/-- Behind a Write, with arms. -/
theorem trn_start {X : List (Int × Int)} {I : List Nat} {s : DevS} (hI : LogI 384 X I) (h0 : X = [] → I = mdI) (h : CSt X I 385 s) : Trn X I s := by
  refine ⟨h.room, ?_⟩
  by_cases hne : X = []
  · refine .inr ⟨h.ast.wf, fun l hl => ?_, ?_, h.len⟩
    · obtain ⟨q, hq, rfl⟩ := List.mem_iff_getElem.1 hl
      exact h.ast.one q _ (fun i hi => by subst hne; obtain ⟨x, hx, _⟩ := hi; cases hx) (List.getElem?_eq_getElem hq)
    · rw [h0 hne]
      have hi : imgS s = I := by
        apply List.ext_getElem?
        intro i
        exact h.ast.img fun hi => by subst hne; obtain ⟨x, hx, _⟩ := hi; cases hx
      rw [hi, h0 hne, le_zero8, ← mdI_word]
      have hml := mdI_len
      apply List.ext_getElem?
      intro i
      have hl8 : ((mdI.drop 128).take 8).length = 8 := by rw [List.length_take, List.length_drop, hml]; rfl
      rw [spl_at (by rw [hl8, hml]; decide), hl8]
      split
      · rw [List.getElem?_take, if_pos (by omega), List.getElem?_drop, show 128 + (i - 128) = i by omega]
      · rfl
  · exact .inl ⟨hne, h.ast, h.len⟩
end Go.Vl

set_option linter.unusedVariables false
set_option linter.unusedSimpArgs false
namespace Go.Vl
open Go Go.Proofs
def Ar1.pr (x : Ar1) : Int × List Int := (x.af, x.kp)
def ownR (x : Ar1) : SP := Sl 1 (.slice x.a x.kp.length x.c) x.kp.length (ints x.kp)
/-- An arm, as it may be. -/
def brA (x : Int × List Int) : Int × List Int := (1 + x.1 % 60, x.2.map fun k => k % 1000)
theorem kpR_all (l : List Int) {n : Nat} (h : l.length = n) : kpR l n = l.map fun k => k % 1000 := by unfold kpR; rw [List.take_of_length_le (by omega)]
theorem ar_sn {xs : List Ar1} {af : Int} {a : Option Addr} {j c : Nat} {kp : List Int} (h : kp.length = j) : xs.flatMap Ar1.cells ++ [.int .i64 af, .slice a j c] = (xs ++ [(⟨af, a, c, kp⟩ : Ar1)]).flatMap Ar1.cells := by
  subst h
  exact fm_sn (f := Ar1.cells) xs ⟨af, a, c, kp⟩
structure ArP (xs : List Ar1) (ars : List (Int × List Int)) : Prop where
  mp : xs.map Ar1.pr = ars.map brA
  cp : ∀ x ∈ xs, x.kp.length ≤ x.c
theorem ap_snoc {xs : List Ar1} {ars : List (Int × List Int)} {i n : Nat} {a : Option Addr} {c : Nat} (hi : i < ars.length) (hn : ars[i].2.length = n) (hc : n ≤ c) (h : ArP xs (ars.take i)) : ArP (xs ++ [⟨1 + ars[i].1 % 60, a, c, kpR ars[i].2 n⟩]) (ars.take (i + 1)) := by
  refine ⟨?_, fun x hx => ?_⟩
  · rw [List.map_append, h.mp, List.take_succ_eq_append_getElem hi, List.map_append]
    simp only [List.map_cons, List.map_nil]
    rw [kpR_all _ hn]; rfl
  · rcases List.mem_append.1 hx with h1 | h1
    · exact h.cp x h1
    · rw [List.mem_singleton.1 h1]
      show (kpR ars[i].2 n).length ≤ c
      rw [kpR_len (by omega)]; exact hc
def ArB (a : Option Addr) (c n : Nat) (xs : List Ar1) : SP := Sl 2 (.slice a n c) n (xs.flatMap Ar1.cells) * Bs ownR xs
theorem arb_rd {A : SP} {a : Option Addr} {c n : Nat} {xs : List Ar1} {ars : List (Int × List Int)} (h : ArP xs ars) (hm : ars.length = n) : RdA (A * ArB a c n xs) a (xs.map fun x => .slice x.a x.kp.length x.c) (ars.map brA) := by
  have hl : xs.length = ars.length := by have := congrArg List.length h.mp; simpa using this
  refine ⟨?_, by simp [hl], fun i hi => ?_⟩
  · have e : acs (xs.map fun x => .slice x.a x.kp.length x.c) (ars.map brA) = xs.flatMap Ar1.cells := by rw [← h.mp, ← acs_mapG]; rfl
    rw [e]
    unfold ArB
    rw [← star_assoc]
    exact rs_sl.left
  · have hx : i < xs.length := by simp at hi; omega
    have e : (ars.map brA)[i] = (xs[i].af, xs[i].kp) := by
      have h1 : (ars.map brA)[i]? = (xs.map Ar1.pr)[i]? := by rw [h.mp]
      rw [List.getElem?_eq_getElem hi, List.getElem?_map, List.getElem?_eq_getElem hx] at h1
      exact Option.some.inj h1
    refine ⟨xs[i].a, xs[i].c, by simp only [List.getElem?_map, List.getElem?_eq_getElem hx, Option.map_some]; rw [e], by rw [e]; exact h.cp _ (List.getElem_mem hx), ?_⟩
    rw [e]
    unfold ArB
    obtain ⟨R, h1, _⟩ := bs_get (f := ownR) hx
    rw [h1, ← star_assoc, ← star_assoc]
    exact rs_sl
attribute [local irreducible] crk crL crc Sl pt ro Dev imgS recS readS recsF rdW rdO rkT Parts rvl recordsS mdI mdK rise mds writeS rollS clearS oldsL kcl xcl lensX lst brL brX fiveX kpR acs chl
set_option maxRecDepth 20000 in
set_option maxHeartbeats 2000000 in
theorem arms11_c {A : SP} {aa : Option Addr} {m ca : Nat} {v1 v2 v4 : Value} {kvs : List Value} {ars : List (Int × List Int)} (hr : RdA A aa kvs ars) (hm : ars.length = m := by first | assumption | rfl) (hl : m ≤ 1099511627776 := by omega) (hk : ∀ x ∈ ars, (-9223372036854775808 ≤ x.1 ∧ x.1 ≤ 9223372036854775807) ∧ x.2.length ≤ 1099511627776 ∧ ∀ k ∈ x.2, -9223372036854775808 ≤ k ∧ k ≤ 9223372036854775807) :
    Fn Try.prog 35 #[.agg #[v1, v2, .slice aa m ca, v4]] (A) (fun v B => ∃ n a c xs, v = .slice a n c ∧ n = (ars.take 6).length ∧ ArP xs (ars.take 6) ∧ n ≤ c ∧ B = A * ArB a c n xs) := by
  refine fn_enterW (args := [.agg #[v1, v2, .slice aa m ca, v4]]) Try.func35 rfl Try.ntmps35 (by simp) ?_
  have hrr : Rs A aa (acs kvs ars) := hr.rd
  have hrl := acs_length hr.len
  refine sr ?_; refine tl_x rfl (o_box rfl rfl) ?_; rintro _ _ ⟨b1, rfl, rfl⟩; refine tla ?_; refine nq ?_; refine sr ?_; refine tla ?_; refine nq ?_; refine tc_seq ?_; refine sr ?_; refine tla ?_; refine nq ?_; refine tc_block ?_; refine tc_pre (A' := A * pt b1 (cl [v1, v2, .slice aa m ca, v4] 56) * Sl 2 (.slice none 0 0) 0 [] * Bs ownR []) (fun _ _ h => by rw [bs_nil, star_emp]; exact sl_nil h) ?_; refine tc_loop (fun kk ρ BB => ∃ (i : Nat) (a3 : Option Addr) (c3 : Nat) (xs : List Ar1), (i ≤ 6) ∧ (i ≤ m) ∧ (i ≤ c3) ∧ (ArP xs (ars.take i)) ∧ kk = 6 - i ∧ ρ 3 = .slice a3 i c3 ∧ ρ 4 = .int .i64 (i : Nat) ∧ ρ 1 = .pointer (some ⟨b1, 0, none⟩) ∧ Dr BB (A * pt b1 (cl [v1, v2, .slice aa m ca, v4] 56) * Sl 2 (.slice a3 i c3) i (xs.flatMap Ar1.cells) * Bs ownR xs)) (m := 6 - (0)) ?_ ?_
  · exact ⟨0, none, 0, [], by omega, by omega, by omega, ⟨rfl, fun x hx => by cases hx⟩, rfl, rfl, rfl, rfl, (by repeat (first | with_reducible exact dr_refl | apply dr_keep | apply dr_drop))⟩
  · intro k ρ B hI
    obtain ⟨i, a3, c3, xs, hp0, hp1, hp2, hp3, hkk1, hE3, hE4, hE1, hBA⟩ := hI
    refine tc_pre hBA.sat ?_
    clear hBA
    refine tc_env (d := 3) hE3 ?_; refine tc_env (d := 4) hE4 ?_; refine tc_env (d := 1) hE1 ?_
    clear hE3 hE4 hE1
    refine tc_seq ?_; refine tc_seq ?_; refine tc_cut (fun ρ BB => ∃ (bb : Bool), (bb = decide (i < m ∧ i < 6)) ∧ ρ 15 = .bool bb ∧ ρ 1 = .pointer (some ⟨b1, 0, none⟩) ∧ ρ 3 = .slice a3 i c3 ∧ ρ 4 = .int .i64 (i : Nat) ∧ BB = A * pt b1 (cl [v1, v2, .slice aa m ca, v4] 56) * Sl 2 (.slice a3 i c3) i (xs.flatMap Ar1.cells) * Bs ownR xs) ?_ ?_
    · skip
      refine tc_reg ?_; refine tlm ?_; refine tv (o_fieldAddr (o := 2) Try.underlying56 rfl rfl sz47 rfl) ?_; refine tv (by first | exact o_load p47 rfl (by repeat (first | with_reducible exact has_here | with_reducible exact has_pt | apply has_left)) rfl | exact o_loadC p47 rfl (by assumption)) ?_; refine tv (o_len Try.underlying47 rfl) ?_; refine tv (o_lss rfl rfl) ?_; refine tlm ?_; refine tl_bool (d := 12) rfl (fun h => ?_) (fun h => ?_)
      · try simp only [lv1, lv2, lv3, lv4, lv5, lv6, Bool.not_true, Bool.not_false] at h
        refine tlm ?_; refine tv (o_lss rfl rfl) ?_; refine tv (o_pick_t rfl (by conv => lhs; whnf)) ?_; refine tl_nil ?_; exact ⟨_, by first | exact (decide_eq_true (by omega)).symm | exact (decide_eq_false (by omega)).symm | (rw [decide_eq_decide]; omega), rfl, rfl, rfl, rfl, rfl⟩
      · try simp only [lv1, lv2, lv3, lv4, lv5, lv6, Bool.not_true, Bool.not_false] at h
        refine tk ?_; refine tk ?_; refine tv (o_pick_f rfl (by conv => lhs; whnf)) ?_; refine tl_nil ?_; exact ⟨_, by first | exact (decide_eq_true (by omega)).symm | exact (decide_eq_false (by omega)).symm | (rw [decide_eq_decide]; omega), rfl, rfl, rfl, rfl, rfl⟩
    · intro ρ B hI
      obtain ⟨bb, hbb0, hE15, hE1, hE3, hE4, rfl⟩ := hI
      refine q_then_n ?_; refine tc_env (d := 15) hE15 ?_; refine tc_env (d := 1) hE1 ?_; refine tc_env (d := 3) hE3 ?_; refine tc_env (d := 4) hE4 ?_
      clear hE15 hE1 hE3 hE4
      refine tc_cond rfl (fun h => ?_) (fun h => ?_)
      · have hlt := of_decide_eq_true (show decide (i < m ∧ i < 6) = true by rw [← hbb0]; exact h)
        have hi : i < ars.length := by omega
        obtain ⟨kb, kc, hkv, hkc, hkr⟩ := hr.keep i hi
        have g0 := acs_at0 hr.len hi
        have g1 := acs_at1 hr.len hi
        have hkv2 : kvs[i]'(by rw [hr.len]; exact hi) = .slice kb ars[i].2.length kc := by rw [List.getElem?_eq_getElem (by rw [hr.len]; exact hi)] at hkv; exact Option.some.inj hkv
        rw [hkv2] at g1
        have hke := hk _ (List.getElem_mem hi)
        obtain ⟨NK, hNK⟩ : ∃ NK, ars[i].2.length = NK := ⟨_, rfl⟩
        rw [hNK] at g1 hke hkc
        refine tc_skip ?_; refine q_then_n ?_; refine tc_seq ?_; refine tc_block ?_; refine sr ?_; refine tv (o_fieldAddr (o := 2) Try.underlying56 rfl rfl sz47 rfl) ?_; refine tv (by first | exact o_load p47 rfl (by repeat (first | with_reducible exact has_here | with_reducible exact has_pt | apply has_left)) rfl | exact o_loadC p47 rfl (by assumption)) ?_; refine tlm ?_; refine tv (o_ixP (a := aa) Try.underlying47 sz78 rfl rfl (by omega) (nn_rs (xs := acs kvs ars) (by repeat (first | assumption | with_reducible exact rs_sl | with_reducible exact rs_pt0 | apply Rs.left)) (fun _ => by rw [acs_length hr.len]; omega))) ?_; refine tv (o_faP (a := aa) (m := 0) (o := 0) Try.underlying78 rfl rfl sz3 rfl (nn_rs (xs := acs kvs ars) (by repeat (first | assumption | with_reducible exact rs_sl | with_reducible exact rs_pt0 | apply Rs.left)) (fun _ => by rw [acs_length hr.len]; omega))) ?_; refine tv (o_ldP (a := aa) (xs := acs kvs ars) p3 rfl (by repeat (first | assumption | with_reducible exact rs_sl | with_reducible exact rs_pt0 | apply Rs.left)) g0) ?_; refine tl_c rfl (o_call bd13 rfl (within11_c (i := ars[i].1) (n := 60))) ?_; rintro _ _ ⟨rfl, rfl⟩; refine tv (o_addI rfl rfl (by omega)) ?_; refine tv (o_bS (l := [_, _]) (pv_cons (by conv => lhs; whnf) pv_nil) Try.underlying78 z78 (pl78 Try.underlying78) rfl) ?_; refine tl_x rfl (o_alloc z78 rfl) ?_
        rintro _ _ ⟨b5, rfl, rfl⟩; refine tl_u rfl (o_stUN (l' := [.int .i64 (1 + ars[i].1 % 60), .slice none 0 0]) rfl (by repeat (first | with_reducible exact upd_here | with_reducible exact upd_pt | apply upd_left)) sz78 rfl rfl rfl (by show 2 ≤ 2; decide) rfl) ?_; refine nq ?_; refine tc_seq ?_; refine sr ?_; refine tla ?_; refine nq ?_; refine tc_block ?_; refine tc_pre (A' := A * pt b1 (cl [v1, v2, .slice aa m ca, v4] 56) * Sl 2 (.slice a3 i c3) i (xs.flatMap Ar1.cells) * Bs ownR xs * pt b5 (cl [.int .i64 (1 + ars[i].1 % 60), .slice none 0 0] 78) * Sl 1 (.slice none 0 0) 0 (ints (kpR ars[i].2 0))) (fun _ _ h => by rw [kpR_zero, ints_nil]; exact sl_nil h) ?_; refine tc_loop (fun kk ρ BB => ∃ (j : Nat) (a6 : Option Addr) (kc6 : Nat), (j ≤ NK) ∧ (j ≤ kc6) ∧ kk = NK - j ∧ ρ 6 = .int .i64 (j : Nat) ∧ ρ 1 = .pointer (some ⟨b1, 0, none⟩) ∧ ρ 3 = .slice a3 i c3 ∧ ρ 4 = .int .i64 (i : Nat) ∧ ρ 5 = .pointer (some ⟨b5, 0, none⟩) ∧ BB = A * pt b1 (cl [v1, v2, .slice aa m ca, v4] 56) * Sl 2 (.slice a3 i c3) i (xs.flatMap Ar1.cells) * Bs ownR xs * pt b5 (cl [.int .i64 (1 + ars[i].1 % 60), .slice a6 j kc6] 78) * Sl 1 (.slice a6 j kc6) j (ints (kpR ars[i].2 j))) (m := NK - (0)) ?_ ?_
        · exact ⟨0, none, 0, by omega, by omega, rfl, rfl, rfl, rfl, rfl, rfl, rfl⟩
        · intro k ρ B hI
          obtain ⟨j, a6, kc6, hq0, hq1, hkk2, hE6, hE1, hE3, hE4, hE5, rfl⟩ := hI
          refine tc_env (d := 6) hE6 ?_; refine tc_env (d := 1) hE1 ?_; refine tc_env (d := 3) hE3 ?_; refine tc_env (d := 4) hE4 ?_; refine tc_env (d := 5) hE5 ?_
          clear hE6 hE1 hE3 hE4 hE5
          refine tc_seq ?_; refine sr ?_; refine tlm ?_; refine tv (o_fieldAddr (o := 2) Try.underlying56 rfl rfl sz47 rfl) ?_; refine tv (by first | exact o_load p47 rfl (by repeat (first | with_reducible exact has_here | with_reducible exact has_pt | apply has_left)) rfl | exact o_loadC p47 rfl (by assumption)) ?_; refine tlm ?_; refine tv (o_ixP (a := aa) Try.underlying47 sz78 rfl rfl (by omega) (nn_rs (xs := acs kvs ars) (by repeat (first | assumption | with_reducible exact rs_sl | with_reducible exact rs_pt0 | apply Rs.left)) (fun _ => by rw [acs_length hr.len]; omega))) ?_; refine tv (o_faP (a := aa) (m := 0) (o := 1) Try.underlying78 rfl rfl sz22 rfl (nn_rs (xs := acs kvs ars) (by repeat (first | assumption | with_reducible exact rs_sl | with_reducible exact rs_pt0 | apply Rs.left)) (fun _ => by rw [acs_length hr.len]; omega))) ?_; refine tv (o_ldP (a := aa) (xs := acs kvs ars) p22 rfl (by repeat (first | assumption | with_reducible exact rs_sl | with_reducible exact rs_pt0 | apply Rs.left)) g1) ?_; refine tv (o_len Try.underlying22 rfl) ?_; refine tv (o_lss rfl rfl) ?_; refine nq ?_; refine tc_cond rfl (fun h => ?_) (fun h => ?_)
          · have hj : j < ars[i].2.length := by first | omega | (simp at h; omega)
            obtain ⟨y, hy⟩ : ∃ y, ars[i].2[j] = y := ⟨_, rfl⟩
            have hyb := hke.2.2 y (hy ▸ List.getElem_mem hj)
            refine tc_skip ?_; refine q_then_n ?_; refine tc_seq ?_; refine tc_block ?_; refine tc_regh (S := A * pt b1 (cl [v1, v2, .slice aa m ca, v4] 56)) mo (by repeat (first | with_reducible exact dr_refl | apply dr_keep | apply dr_drop)) ?_
            show TH _ _ _ _ _ 16 #[ff,ff,ff,ff,ff,ff,ff,ff,ff,ff,ff,ff,ff,ff,ff,ff] _ _
            refine th_take (i := 0) (listed' := #[tt,ff,ff,ff,ff,ff,ff,ff,ff,ff,ff,ff,ff,ff,ff,ff]) rfl (by kernel_rfl) (by kernel_rfl) (by kernel_rfl) rfl rfl (o_fieldAddr (o := 1) Try.underlying78 rfl rfl sz22 rfl) ?_; refine th_take (i := 2) (listed' := #[tt,ff,tt,ff,ff,ff,ff,ff,ff,ff,ff,ff,ff,ff,ff,ff]) rfl (by kernel_rfl) (by kernel_rfl) (by kernel_rfl) rfl rfl (o_fieldAddr (o := 2) Try.underlying56 rfl rfl sz47 rfl) ?_; refine th_take (i := 3) (listed' := #[tt,ff,tt,tt,ff,ff,ff,ff,ff,ff,ff,ff,ff,ff,ff,ff]) rfl (by kernel_rfl) (by kernel_rfl) (by kernel_rfl) rfl rfl (by first | exact o_load p47 rfl (by repeat (first | with_reducible exact has_here | with_reducible exact has_pt | apply has_left)) rfl | exact o_loadC p47 rfl (by assumption)) ?_; refine th_take (i := 4) (listed' := #[tt,ff,tt,tt,tt,ff,ff,ff,ff,ff,ff,ff,ff,ff,ff,ff]) rfl (by kernel_rfl) (by kernel_rfl) (by kernel_rfl) rfl rfl (o_move (by conv => lhs; whnf)) ?_; refine th_take (i := 5) (listed' := #[tt,ff,tt,tt,tt,tt,ff,ff,ff,ff,ff,ff,ff,ff,ff,ff]) rfl (by kernel_rfl) (by kernel_rfl) (by kernel_rfl) rfl rfl (o_ixP (a := aa) Try.underlying47 sz78 rfl rfl (by omega) (nn_rs (xs := acs kvs ars) (by repeat (first | assumption | with_reducible exact rs_sl | with_reducible exact rs_pt0 | apply Rs.left)) (fun _ => by rw [acs_length hr.len]; omega))) ?_; refine th_take (i := 6) (listed' := #[tt,ff,tt,tt,tt,tt,tt,ff,ff,ff,ff,ff,ff,ff,ff,ff]) rfl (by kernel_rfl) (by kernel_rfl) (by kernel_rfl) rfl rfl (o_faP (a := aa) (m := 0) (o := 1) Try.underlying78 rfl rfl sz22 rfl (nn_rs (xs := acs kvs ars) (by repeat (first | assumption | with_reducible exact rs_sl | with_reducible exact rs_pt0 | apply Rs.left)) (fun _ => by rw [acs_length hr.len]; omega))) ?_
            refine th_take (i := 7) (listed' := #[tt,ff,tt,tt,tt,tt,tt,tt,ff,ff,ff,ff,ff,ff,ff,ff]) rfl (by kernel_rfl) (by kernel_rfl) (by kernel_rfl) rfl rfl (o_ldP (a := aa) (xs := acs kvs ars) p22 rfl (by repeat (first | assumption | with_reducible exact rs_sl | with_reducible exact rs_pt0 | apply Rs.left)) g1) ?_; refine th_take (i := 8) (listed' := #[tt,ff,tt,tt,tt,tt,tt,tt,tt,ff,ff,ff,ff,ff,ff,ff]) rfl (by kernel_rfl) (by kernel_rfl) (by kernel_rfl) rfl rfl (o_move (by conv => lhs; whnf)) ?_; refine th_take (i := 9) (listed' := #[tt,ff,tt,tt,tt,tt,tt,tt,tt,tt,ff,ff,ff,ff,ff,ff]) rfl (by kernel_rfl) (by kernel_rfl) (by kernel_rfl) rfl rfl (o_ixP1 (a := kb) Try.underlying22 sz3 rfl rfl (by omega) (nn_rs (xs := ints ars[i].2) (by repeat (first | assumption | with_reducible exact rs_sl | with_reducible exact rs_pt0 | apply Rs.left)) (by rw [ints_length]; omega))) ?_; refine th_take (i := 10) (listed' := #[tt,ff,tt,tt,tt,tt,tt,tt,tt,tt,tt,ff,ff,ff,ff,ff]) rfl (by kernel_rfl) (by kernel_rfl) (by kernel_rfl) rfl rfl (o_ldP (a := kb) (xs := ints ars[i].2) p3 rfl (by repeat (first | assumption | with_reducible exact rs_sl | with_reducible exact rs_pt0 | apply Rs.left)) (ints_at hj)) ?_; refine th_env (d := 48) (v := .int .i64 y) (by show Value.int .i64 ars[i].2[j] = _; rw [hy]) ?_; refine th_two (i := 1) (j := 11) (by kernel_rfl) ?_ ?_
            · skip
              refine oh_v (i := 1) (listed' := #[tt,tt,tt,tt,tt,tt,tt,tt,tt,tt,tt,ff,ff,ff,ff,ff]) rfl rfl rfl (by first | exact o_load p22 rfl (by repeat (first | with_reducible exact has_here | with_reducible exact has_pt | apply has_left)) rfl | exact o_loadC p22 rfl (by assumption)) ?_; refine th_one (i := 11) (by kernel_rfl) ?_; refine oh_c (i := 11) (listed' := #[tt,tt,tt,tt,tt,tt,tt,tt,tt,tt,tt,tt,ff,ff,ff,ff]) rfl rfl rfl (o_call bd13 rfl (within11_c (i := y) (n := 1000))) ?_; rintro _ _ ⟨rfl, rfl⟩; refine ⟨by repeat (first | with_reducible exact dr_refl | apply dr_keep | apply dr_drop), ?_⟩; refine th_one (i := 12) (by kernel_rfl) ?_; refine oh_x (i := 12) (listed' := #[tt,tt,tt,tt,tt,tt,tt,tt,tt,tt,tt,tt,tt,ff,ff,ff]) rfl rfl rfl (o_buildSliceL (k := 1) (vs := ints [y % 1000]) (l := ints [y % 1000]) Try.underlying22 sz3 z3 rfl rfl (by decide) (by decide) (by intro v hv; simp only [ints, i64, List.map_cons, List.map_nil, List.mem_cons, List.not_mem_nil, or_false] at hv; rcases hv with rfl; rfl) rfl) ?_; rintro _ _ ⟨b50, rfl, rfl⟩; refine ⟨by repeat (first | with_reducible exact dr_refl | apply dr_keep | apply dr_drop), ?_⟩; refine th_one (i := 13) (by kernel_rfl) ?_; refine oh_x (i := 13) (listed' := #[tt,tt,tt,tt,tt,tt,tt,tt,tt,tt,tt,tt,tt,tt,ff,ff]) rfl rfl rfl (o_apB Try.underlying22 Try.underlying22 sz3 by3 z3 rfl (by decide) (by decide) rfl rfl rfl (by repeat (first | with_reducible exact ct_here | apply ct_left)) rfl rfl (by omega) (show _ = ints (kpR ars[i].2 (j + 1)) by rw [kpR_succ hj, hy]; simp [ints])) ?_
              rintro _ _ ⟨a51, c51, rfl, hc51, rfl⟩; refine ⟨by repeat (first | with_reducible exact dr_refl | apply dr_keep | apply dr_drop), ?_⟩; refine th_take (i := 14) (listed' := #[tt,tt,tt,tt,tt,tt,tt,tt,tt,tt,tt,tt,tt,tt,tt,ff]) rfl (by kernel_rfl) (by kernel_rfl) (by kernel_rfl) rfl rfl (o_fieldAddr (o := 1) Try.underlying78 rfl rfl sz22 rfl) ?_; refine th_one (i := 15) (by kernel_rfl) ?_; refine oh_u (i := 15) (listed' := #[tt,tt,tt,tt,tt,tt,tt,tt,tt,tt,tt,tt,tt,tt,tt,tt]) rfl rfl rfl (o_stU (l' := [.int .i64 (1 + ars[i].1 % 60), .slice a51 (j + 1) c51]) rfl (by repeat (first | with_reducible exact upd_here | with_reducible exact upd_pt | apply upd_left)) sz22 rfl rfl (by show 1 < 2; decide) rfl) (by repeat (first | with_reducible exact dr_refl | apply dr_keep | apply dr_drop)) ?_; refine th_done (by kernel_rfl) ?_; refine q_block_n (q_then_n ?_); refine tc_reg ?_; refine tlm ?_; refine tv (by first | exact o_addI rfl rfl (by omega) | exact o_add rfl rfl) ?_; refine tla ?_; refine nq ?_; exact ⟨_, by omega, j + 1, _, _, by omega, hc51, rfl, rfl, rfl, rfl, rfl, rfl, rfl⟩
            · skip
              refine oh_c (i := 11) (listed' := #[tt,ff,tt,tt,tt,tt,tt,tt,tt,tt,tt,tt,ff,ff,ff,ff]) rfl rfl rfl (o_call bd13 rfl (within11_c (i := y) (n := 1000))) ?_; rintro _ _ ⟨rfl, rfl⟩; refine ⟨by repeat (first | with_reducible exact dr_refl | apply dr_keep | apply dr_drop), ?_⟩; refine th_two (i := 1) (j := 12) (by kernel_rfl) ?_ ?_
              · skip
                refine oh_v (i := 1) (listed' := #[tt,tt,tt,tt,tt,tt,tt,tt,tt,tt,tt,tt,ff,ff,ff,ff]) rfl rfl rfl (by first | exact o_load p22 rfl (by repeat (first | with_reducible exact has_here | with_reducible exact has_pt | apply has_left)) rfl | exact o_loadC p22 rfl (by assumption)) ?_; refine th_one (i := 12) (by kernel_rfl) ?_; refine oh_x (i := 12) (listed' := #[tt,tt,tt,tt,tt,tt,tt,tt,tt,tt,tt,tt,tt,ff,ff,ff]) rfl rfl rfl (o_buildSliceL (k := 1) (vs := ints [y % 1000]) (l := ints [y % 1000]) Try.underlying22 sz3 z3 rfl rfl (by decide) (by decide) (by intro v hv; simp only [ints, i64, List.map_cons, List.map_nil, List.mem_cons, List.not_mem_nil, or_false] at hv; rcases hv with rfl; rfl) rfl) ?_; rintro _ _ ⟨b50, rfl, rfl⟩; refine ⟨by repeat (first | with_reducible exact dr_refl | apply dr_keep | apply dr_drop), ?_⟩; refine th_one (i := 13) (by kernel_rfl) ?_; refine oh_x (i := 13) (listed' := #[tt,tt,tt,tt,tt,tt,tt,tt,tt,tt,tt,tt,tt,tt,ff,ff]) rfl rfl rfl (o_apB Try.underlying22 Try.underlying22 sz3 by3 z3 rfl (by decide) (by decide) rfl rfl rfl (by repeat (first | with_reducible exact ct_here | apply ct_left)) rfl rfl (by omega) (show _ = ints (kpR ars[i].2 (j + 1)) by rw [kpR_succ hj, hy]; simp [ints])) ?_; rintro _ _ ⟨a51, c51, rfl, hc51, rfl⟩; refine ⟨by repeat (first | with_reducible exact dr_refl | apply dr_keep | apply dr_drop), ?_⟩; refine th_take (i := 14) (listed' := #[tt,tt,tt,tt,tt,tt,tt,tt,tt,tt,tt,tt,tt,tt,tt,ff]) rfl (by kernel_rfl) (by kernel_rfl) (by kernel_rfl) rfl rfl (o_fieldAddr (o := 1) Try.underlying78 rfl rfl sz22 rfl) ?_
                refine th_one (i := 15) (by kernel_rfl) ?_; refine oh_u (i := 15) (listed' := #[tt,tt,tt,tt,tt,tt,tt,tt,tt,tt,tt,tt,tt,tt,tt,tt]) rfl rfl rfl (o_stU (l' := [.int .i64 (1 + ars[i].1 % 60), .slice a51 (j + 1) c51]) rfl (by repeat (first | with_reducible exact upd_here | with_reducible exact upd_pt | apply upd_left)) sz22 rfl rfl (by show 1 < 2; decide) rfl) (by repeat (first | with_reducible exact dr_refl | apply dr_keep | apply dr_drop)) ?_; refine th_done (by kernel_rfl) ?_; refine q_block_n (q_then_n ?_); refine tc_reg ?_; refine tlm ?_; refine tv (by first | exact o_addI rfl rfl (by omega) | exact o_add rfl rfl) ?_; refine tla ?_; refine nq ?_; exact ⟨_, by omega, j + 1, _, _, by omega, hc51, rfl, rfl, rfl, rfl, rfl, rfl, rfl⟩
              · skip
                refine oh_x (i := 12) (listed' := #[tt,ff,tt,tt,tt,tt,tt,tt,tt,tt,tt,tt,tt,ff,ff,ff]) rfl rfl rfl (o_buildSliceL (k := 1) (vs := ints [y % 1000]) (l := ints [y % 1000]) Try.underlying22 sz3 z3 rfl rfl (by decide) (by decide) (by intro v hv; simp only [ints, i64, List.map_cons, List.map_nil, List.mem_cons, List.not_mem_nil, or_false] at hv; rcases hv with rfl; rfl) rfl) ?_; rintro _ _ ⟨b50, rfl, rfl⟩; refine ⟨by repeat (first | with_reducible exact dr_refl | apply dr_keep | apply dr_drop), ?_⟩; refine th_one (i := 1) (by kernel_rfl) ?_; refine oh_v (i := 1) (listed' := #[tt,tt,tt,tt,tt,tt,tt,tt,tt,tt,tt,tt,tt,ff,ff,ff]) rfl rfl rfl (by first | exact o_load p22 rfl (by repeat (first | with_reducible exact has_here | with_reducible exact has_pt | apply has_left)) rfl | exact o_loadC p22 rfl (by assumption)) ?_; refine th_one (i := 13) (by kernel_rfl) ?_; refine oh_x (i := 13) (listed' := #[tt,tt,tt,tt,tt,tt,tt,tt,tt,tt,tt,tt,tt,tt,ff,ff]) rfl rfl rfl (o_apB Try.underlying22 Try.underlying22 sz3 by3 z3 rfl (by decide) (by decide) rfl rfl rfl (by repeat (first | with_reducible exact ct_here | apply ct_left)) rfl rfl (by omega) (show _ = ints (kpR ars[i].2 (j + 1)) by rw [kpR_succ hj, hy]; simp [ints])) ?_; rintro _ _ ⟨a51, c51, rfl, hc51, rfl⟩; refine ⟨by repeat (first | with_reducible exact dr_refl | apply dr_keep | apply dr_drop), ?_⟩; refine th_take (i := 14) (listed' := #[tt,tt,tt,tt,tt,tt,tt,tt,tt,tt,tt,tt,tt,tt,tt,ff]) rfl (by kernel_rfl) (by kernel_rfl) (by kernel_rfl) rfl rfl (o_fieldAddr (o := 1) Try.underlying78 rfl rfl sz22 rfl) ?_
                refine th_one (i := 15) (by kernel_rfl) ?_; refine oh_u (i := 15) (listed' := #[tt,tt,tt,tt,tt,tt,tt,tt,tt,tt,tt,tt,tt,tt,tt,tt]) rfl rfl rfl (o_stU (l' := [.int .i64 (1 + ars[i].1 % 60), .slice a51 (j + 1) c51]) rfl (by repeat (first | with_reducible exact upd_here | with_reducible exact upd_pt | apply upd_left)) sz22 rfl rfl (by show 1 < 2; decide) rfl) (by repeat (first | with_reducible exact dr_refl | apply dr_keep | apply dr_drop)) ?_; refine th_done (by kernel_rfl) ?_; refine q_block_n (q_then_n ?_); refine tc_reg ?_; refine tlm ?_; refine tv (by first | exact o_addI rfl rfl (by omega) | exact o_add rfl rfl) ?_; refine tla ?_; refine nq ?_; exact ⟨_, by omega, j + 1, _, _, by omega, hc51, rfl, rfl, rfl, rfl, rfl, rfl, rfl⟩
          · obtain rfl : j = NK := by first | omega | (simp at h; omega)
            refine tc_exit ?_; refine q_then_e (q_then_e (q_block_x (q_then_n ?_))); refine tc_reg ?_; refine tlm ?_; refine tv (o_loadN (vs := [.int .i64 (1 + ars[i].1 % 60), .slice a6 j kc6]) a78 sz78 rfl (by repeat (first | with_reducible exact has_here | with_reducible exact has_pt | apply has_left)) (by show 2 ≤ 2; decide) rfl) ?_; refine tl_x rfl (o_buildSliceK (k := 2) (l := [.int .i64 (1 + ars[i].1 % 60), .slice a6 j kc6]) Try.underlying47 sz78 z78 rfl rfl (by decide)) ?_; rintro _ _ ⟨b55, rfl, rfl⟩; refine tl_x rfl (o_apB Try.underlying47 Try.underlying47 sz78 by78 z78 rfl (by decide) (by decide) rfl rfl rfl (by repeat (first | with_reducible exact ct_here | apply ct_left)) rfl rfl (by omega) (show xs.flatMap Ar1.cells ++ [.int .i64 (1 + ars[i].1 % 60), .slice a6 j kc6] = (xs ++ [(⟨(1 + ars[i].1 % 60), a6, kc6, kpR ars[i].2 j⟩ : Ar1)]).flatMap Ar1.cells from ar_sn (kp := kpR ars[i].2 j) (kpR_len (by omega)))) ?_; rintro _ _ ⟨a56, c56, rfl, hc56, rfl⟩; refine tla ?_; refine tl_nil ?_; refine q_block_n (q_then_n ?_); refine tc_reg ?_; refine tlm ?_; refine tv (by first | exact o_addI rfl rfl (by omega) | exact o_add rfl rfl) ?_; refine tla ?_; refine nq ?_; exact ⟨_, by omega, i + 1, a56, c56, xs ++ [(⟨(1 + ars[i].1 % 60), a6, kc6, kpR ars[i].2 j⟩ : Ar1)], by omega, by omega, hc56, ap_snoc (by omega) hNK (by omega) hp3, rfl, rfl, rfl, rfl, by rw [bs_snoc]; show Dr _ (_ * (_ * Sl 1 (.slice a6 (kpR ars[i].2 j).length kc6) (kpR ars[i].2 j).length (ints (kpR ars[i].2 j)))); rw [kpR_len (by omega), ← star_assoc]; repeat (first | with_reducible exact dr_refl | apply dr_keep | apply dr_drop)⟩
      · have hlt := of_decide_eq_false (show decide (i < m ∧ i < 6) = false by rw [← hbb0]; exact h)
        have hte : ars.take 6 = ars.take i := by
          rcases Nat.lt_or_ge i 6 with h6 | h6
          · rw [List.take_of_length_le (by omega), List.take_of_length_le (by omega)]
          · rw [show i = 6 by omega]
        refine tc_exit ?_; refine q_then_e (q_then_e (q_block_x (q_then_n ?_))); refine sr ?_; refine tlm ?_; refine tla ?_; refine nq ?_; refine tc_ret ?_; exact ⟨.slice a3 i c3, A * ArB a3 c3 i xs, res1 rfl rfl, Dr.sat (by unfold ArB; rw [← star_assoc]; repeat (first | with_reducible exact dr_refl | apply dr_keep | apply dr_drop)), i, a3, c3, xs, rfl, by rw [hte, List.length_take]; omega, by rw [hte]; exact hp3, hp2, rfl⟩
end Go.Vl

set_option linter.unusedVariables false
set_option linter.unusedSimpArgs false
namespace Go.Vl
open Go Go.Proofs
/-- A change, read: of any length. -/
structure ChgV (A : SP) (x : Chg) : Prop where
  q : -9223372036854775808 ≤ x.q ∧ x.q ≤ 9223372036854775807
  p : -9223372036854775808 ≤ x.p ∧ x.p ≤ 9223372036854775807
  cap : x.b.length ≤ x.c
  rs : Rs A x.a (bys x.b)
  by_ : ∀ y ∈ x.b, y < 256
theorem ChgV.left {A X : SP} {x : Chg} (h : ChgV A x) : ChgV (A * X) x := ⟨h.q, h.p, h.cap, h.rs.left, h.by_⟩
theorem chl_len (l : List Chg) : (chl l).length = l.length * 5 := fm_length (f := Chg.cells) fun _ _ => rfl
theorem chl_at {l : List Chg} {j : Nat} (h : j < l.length) : ((chl l).drop (j * 5)).take 5 = l[j].cells := fm_at (f := Chg.cells) (fun _ _ => rfl) h
theorem b_and3 {p q : Prop} [Decidable p] [Decidable q] {b : Bool} (hp : p) (hq : q) : (!b) = decide (p ∧ q ∧ b = false) := by cases b <;> simp [hp, hq]
attribute [local irreducible] crk crL crc Sl pt ro Dev imgS recS readS recsF rdW rdO rkT Parts rvl recordsS mdI mdK rise mds writeS rollS clearS oldsL kcl xcl lensX lst brL brX fiveX kpR acs chl phi
set_option maxRecDepth 20000 in
set_option maxHeartbeats 2000000 in
theorem changed_c {A R : SP} {C : SP → SP} {d : Nat} {s : DevS} (hc : Ct A (Dev d s) R C := by repeat (first | with_reducible exact ct_here | apply ct_left)) {al ac : Option Addr} {n cx m cc r : Nat} {v1 v3 v4 : Value} {X : List (Int × Int)} {I : List Nat} {ch : List Chg} (hr : Rs R al (xcl X) := by repeat (first | assumption | with_reducible exact rs_sl | with_reducible exact rs_pt0 | exact rs_none | apply Rs.left)) (hm : X.length = n := by first | assumption | rfl) (hX : ∀ x ∈ X, XIn x := by assumption) (hn : n ≤ 1048576 := by omega) (hrc : Rs R ac (chl ch) := by repeat (first | assumption | with_reducible exact rs_sl | with_reducible exact rs_pt0 | exact rs_none | apply Rs.left)) (hmc : ch.length = m := by first | assumption | rfl) (hml : m ≤ 1048576 := by omega) (hch : ∀ x ∈ ch, ChgV R x) (hst : CSt X I (r + 40 * m) s := by assumption) :
    Fn Try.prog 36 #[.pointer (some ⟨d, 0, none⟩), .slice al n cx, .agg #[v1, .slice ac m cc, v3, v4]] (A) (fun v B => ∃ s2, v = .bool true ∧ CSt X I r s2 ∧ phi s2 ≤ phi s ∧ B = C (Dev d s2)) := by
  refine fn_enterW (args := [.pointer (some ⟨d, 0, none⟩), .slice al n cx, .agg #[v1, .slice ac m cc, v3, v4]]) Try.func36 rfl Try.ntmps36 (by simp) ?_; refine tc_have (fun _ _ h => ct_wf2 hc h) fun hw => ?_
  have htop := hw.top
  have hpos := hw.pos
  obtain ⟨rfl, hC⟩ := hc
  have hAC : ∀ g w, sat g w (R * Dev d s) → sat g w (C (Dev d s)) := fun g w h => by rw [hC]; exact h
  refine sr ?_; refine tl_x rfl (o_box rfl rfl) ?_; rintro _ _ ⟨b5, rfl, rfl⟩; refine tla ?_; refine nq ?_; refine tc_seq ?_; refine sr ?_; refine tla ?_; refine nq ?_; refine tc_block ?_; refine tc_loop (fun kk ρ BB => ∃ (i : Nat) (t : DevS), (i ≤ m) ∧ (CSt X I (r + 40 * (m - i)) t) ∧ (phi t ≤ phi s) ∧ kk = m - i ∧ ρ 7 = .int .i64 (i : Nat) ∧ ρ 0 = .pointer (some ⟨d, 0, none⟩) ∧ ρ 1 = .slice al n cx ∧ ρ 5 = .pointer (some ⟨b5, 0, none⟩) ∧ Dr BB (R * Dev d t * pt b5 (cl [v1, .slice ac m cc, v3, v4] 56))) (m := m - (0)) ?_ ?_
  · exact ⟨0, s, by omega, hst, Nat.le_refl _, rfl, rfl, rfl, rfl, rfl, (by repeat (first | with_reducible exact dr_refl | apply dr_keep | apply dr_drop))⟩
  · intro k ρ B hI
    obtain ⟨i, t, hp0, hp1, hp2, hkk1, hE7, hE0, hE1, hE5, hBA⟩ := hI
    refine tc_pre hBA.sat ?_
    clear hBA
    refine tc_env (d := 7) hE7 ?_; refine tc_env (d := 0) hE0 ?_; refine tc_env (d := 1) hE1 ?_; refine tc_env (d := 5) hE5 ?_
    clear hE7 hE0 hE1 hE5
    refine tc_seq ?_; refine tc_seq ?_; refine tc_cut (fun ρ BB => ∃ (bb : Bool), (bb = decide (i < m ∧ 0 < n ∧ t.off = false)) ∧ ρ 27 = .bool bb ∧ ρ 0 = .pointer (some ⟨d, 0, none⟩) ∧ ρ 1 = .slice al n cx ∧ ρ 5 = .pointer (some ⟨b5, 0, none⟩) ∧ ρ 7 = .int .i64 (i : Nat) ∧ BB = R * Dev d t * pt b5 (cl [v1, .slice ac m cc, v3, v4] 56)) ?_ ?_
    · skip
      refine tc_reg ?_; refine tlm ?_; refine tv (o_fieldAddr (o := 1) Try.underlying56 rfl rfl sz54 rfl) ?_; refine tv (by first | exact o_load p54 rfl (by repeat (first | with_reducible exact has_here | with_reducible exact has_pt | apply has_left)) rfl | exact o_loadC p54 rfl (by assumption)) ?_; refine tv (o_len Try.underlying54 rfl) ?_; refine tv (o_lss rfl rfl) ?_; refine tlm ?_; refine tl_bool (d := 18) rfl (fun h => ?_) (fun h => ?_)
      · have g18 : (i < m) := by first | exact of_decide_eq_true h | (have h2 := h; simp at h2; omega) | simpa using h
        refine tlm ?_; refine tv (o_len Try.underlying53 rfl) ?_; refine tv (o_gtr rfl rfl) ?_; refine tv (o_pick_t rfl (by conv => lhs; whnf)) ?_; refine tlm ?_; refine tl_bool (d := 23) rfl (fun h => ?_) (fun h => ?_)
        · have g23 : (i < m ∧ 0 < n) := by first | exact of_decide_eq_true h | (have h2 := h; simp at h2; omega) | simpa using h
          refine tlm ?_; refine tl_c rfl (o_call bd32 rfl (Off_c (s := t))) ?_; rintro _ _ ⟨rfl, rfl⟩; refine tv (o_not rfl) ?_; refine tv (o_pick_t rfl (by conv => lhs; whnf)) ?_; refine tl_nil ?_; exact ⟨_, by first | exact b_and3 (by omega) (by omega) | exact (decide_eq_false (by omega)).symm | exact (decide_eq_false (fun h9 => by omega)).symm, rfl, rfl, rfl, rfl, rfl, rfl⟩
        · have g23 : ¬ (i < m ∧ 0 < n) := by first | exact of_decide_eq_false h | (have h2 := h; simp at h2; omega) | simpa using h
          refine tk ?_; refine tk ?_; refine tk ?_; refine tv (o_pick_f rfl (by conv => lhs; whnf)) ?_; refine tl_nil ?_; exact ⟨_, by first | exact b_and3 (by omega) (by omega) | exact (decide_eq_false (by omega)).symm | exact (decide_eq_false (fun h9 => by omega)).symm, rfl, rfl, rfl, rfl, rfl, rfl⟩
      · have g18 : ¬ (i < m) := by first | exact of_decide_eq_false h | (have h2 := h; simp at h2; omega) | simpa using h
        refine tk ?_; refine tk ?_; refine tk ?_; refine tv (o_pick_f rfl (by conv => lhs; whnf)) ?_; refine tlm ?_; refine tk ?_; refine tk ?_; refine tk ?_; refine tv (o_pick_f rfl (by conv => lhs; whnf)) ?_; refine tl_nil ?_; exact ⟨_, by first | exact b_and3 (by omega) (by omega) | exact (decide_eq_false (by omega)).symm | exact (decide_eq_false (fun h9 => by omega)).symm, rfl, rfl, rfl, rfl, rfl, rfl⟩
    · intro ρ B hI
      obtain ⟨bb, hbb0, hE27, hE0, hE1, hE5, hE7, rfl⟩ := hI
      refine q_then_n ?_; refine tc_env (d := 27) hE27 ?_; refine tc_env (d := 0) hE0 ?_; refine tc_env (d := 1) hE1 ?_; refine tc_env (d := 5) hE5 ?_; refine tc_env (d := 7) hE7 ?_
      clear hE27 hE0 hE1 hE5 hE7
      refine tc_cond rfl (fun h => ?_) (fun h => ?_)
      · obtain ⟨him, hn0, hO⟩ := of_decide_eq_true (show decide (i < m ∧ 0 < n ∧ t.off = false) = true by rw [← hbb0]; exact h)
        have hi : i < ch.length := by omega
        obtain ⟨x, hx1⟩ : ∃ x, ch[i] = x := ⟨_, rfl⟩
        have hxw := hch x (hx1 ▸ List.getElem_mem hi)
        have hxq := hxw.q
        have hxp := hxw.p
        have hxc := hxw.cap
        obtain ⟨kz, hkz⟩ := Int.eq_ofNat_of_zero_le (show 0 ≤ x.q % (n : Int) from Int.emod_nonneg _ (by omega))
        have hkl : x.q % (n : Int) < n := Int.emod_lt_of_pos _ (by omega)
        have hkX : kz < X.length := by omega
        obtain ⟨e, he1⟩ : ∃ e, X[kz] = e := ⟨_, rfl⟩
        have hem : e ∈ X := he1 ▸ List.getElem_mem hkX
        have hex := hX e hem
        unfold XIn at hex
        obtain ⟨P, hP⟩ : ∃ P, x.p % e.2 = P := ⟨_, rfl⟩
        have hPb : 0 ≤ P ∧ P < e.2 := ⟨hP ▸ Int.emod_nonneg _ (by omega), hP ▸ Int.emod_lt_of_pos _ (by omega)⟩
        obtain ⟨H, hH⟩ := Int.eq_ofNat_of_zero_le (show 0 ≤ e.2 - P by omega)
        refine tc_skip ?_; refine q_then_n ?_; refine tc_seq ?_; refine tc_block ?_; refine sr ?_; refine tv (o_fieldAddr (o := 1) Try.underlying56 rfl rfl sz54 rfl) ?_; refine tv (by first | exact o_load p54 rfl (by repeat (first | with_reducible exact has_here | with_reducible exact has_pt | apply has_left)) rfl | exact o_loadC p54 rfl (by assumption)) ?_; refine tlm ?_; refine tv (o_ixP (a := ac) Try.underlying54 sz118 rfl rfl (by omega) (nn_rs (xs := chl ch) (by repeat (first | assumption | with_reducible exact rs_sl | with_reducible exact rs_pt0 | apply Rs.left)) (fun _ => by rw [chl_len]; omega))) ?_; refine tv (o_ldPN (a := ac) (xs := chl ch) (vs := [.int .i64 x.q, .int .i64 x.p, .slice x.a x.b.length x.c, .bool x.fl, .bool x.fe]) a118 sz118 rfl (by repeat (first | assumption | with_reducible exact rs_sl | with_reducible exact rs_pt0 | apply Rs.left)) (by rw [chl_at (by omega), hx1]; rfl) rfl (by decide)) ?_; refine tl_x rfl (o_alloc z118 rfl) ?_; rintro _ _ ⟨b8, rfl, rfl⟩; refine tl_u rfl (o_stUN (l' := [.int .i64 x.q, .int .i64 x.p, .slice x.a x.b.length x.c, .bool x.fl, .bool x.fe]) rfl (by repeat (first | with_reducible exact upd_here | with_reducible exact upd_pt | apply upd_left)) sz118 rfl rfl rfl (by show 5 ≤ 5; decide) rfl) ?_; refine nq ?_; refine sr ?_; refine tlm ?_
        refine tv (o_fieldAddr (o := 0) Try.underlying118 rfl rfl sz3 rfl) ?_; refine tv (by first | exact o_load p3 rfl (by repeat (first | with_reducible exact has_here | with_reducible exact has_pt | apply has_left)) rfl | exact o_loadC p3 rfl (by assumption)) ?_; refine tlm ?_; refine tv (o_len Try.underlying53 rfl) ?_; refine tl_c rfl (o_call bd13 rfl (within11_c (i := x.q) (n := (n : Int)))) ?_; rintro _ _ ⟨rfl, rfl⟩; refine tl_env (d := 40) (v := .int .i64 ((kz : Nat) : Int)) (by show Value.int .i64 (x.q % (n : Int)) = _; rw [hkz]) ?_; refine tv (o_ixP (a := al) Try.underlying53 sz74 rfl rfl (by omega) (nn_rs (xs := xcl X) (by repeat (first | assumption | with_reducible exact rs_sl | with_reducible exact rs_pt0 | apply Rs.left)) (fun _ => by rw [xcl_len]; omega))) ?_; refine tv (o_ldPN (a := al) (xs := xcl X) (vs := [.int .i64 e.1, .int .i64 e.2]) a74 sz74 rfl (by repeat (first | assumption | with_reducible exact rs_sl | with_reducible exact rs_pt0 | apply Rs.left)) (by rw [xcl_at (by omega), he1]; rfl) rfl (by decide)) ?_; refine tl_x rfl (o_alloc z74 rfl) ?_; rintro _ _ ⟨b9, rfl, rfl⟩; refine tl_u rfl (o_stUN (l' := [.int .i64 e.1, .int .i64 e.2]) rfl (by repeat (first | with_reducible exact upd_here | with_reducible exact upd_pt | apply upd_left)) sz74 rfl rfl rfl (by show 2 ≤ 2; decide) rfl) ?_; refine nq ?_; refine sr ?_
        refine tv (o_fieldAddr (o := 1) Try.underlying118 rfl rfl sz3 rfl) ?_; refine tv (by first | exact o_load p3 rfl (by repeat (first | with_reducible exact has_here | with_reducible exact has_pt | apply has_left)) rfl | exact o_loadC p3 rfl (by assumption)) ?_; refine tv (o_fieldAddr (o := 1) Try.underlying74 rfl rfl sz3 rfl) ?_; refine tv (by first | exact o_load p3 rfl (by repeat (first | with_reducible exact has_here | with_reducible exact has_pt | apply has_left)) rfl | exact o_loadC p3 rfl (by assumption)) ?_; refine tl_c rfl (o_call bd13 rfl (within11_c (i := x.p) (n := e.2))) ?_; rintro _ _ ⟨rfl, rfl⟩; refine tl_env (d := 47) (v := .int .i64 P) (by show Value.int .i64 (x.p % e.2) = _; rw [hP]) ?_; refine tla ?_; refine nq ?_; refine sr ?_; refine tv (o_fieldAddr (o := 2) Try.underlying118 rfl rfl sz60 rfl) ?_; refine tv (by first | exact o_load p60 rfl (by repeat (first | with_reducible exact has_here | with_reducible exact has_pt | apply has_left)) rfl | exact o_loadC p60 rfl (by assumption)) ?_; refine tla ?_; refine nq ?_; refine tc_seq ?_; refine sr ?_; refine tlm ?_; refine tv (o_len Try.underlying60 rfl) ?_; refine tv (o_fieldAddr (o := 1) Try.underlying74 rfl rfl sz3 rfl) ?_; refine tv (by first | exact o_load p3 rfl (by repeat (first | with_reducible exact has_here | with_reducible exact has_pt | apply has_left)) rfl | exact o_loadC p3 rfl (by assumption)) ?_
        refine tlm ?_; refine tv (o_subI rfl rfl (by omega)) ?_; refine tv (o_gtr rfl rfl) ?_; refine nq ?_; refine tc_cut (fun ρ BB => ∃ (nb : Nat), (nb ≤ x.b.length) ∧ (nb ≤ H) ∧ ρ 11 = .slice x.a nb x.c ∧ ρ 0 = .pointer (some ⟨d, 0, none⟩) ∧ ρ 1 = .slice al n cx ∧ ρ 5 = .pointer (some ⟨b5, 0, none⟩) ∧ ρ 7 = .int .i64 (i : Nat) ∧ ρ 8 = .pointer (some ⟨b8, 0, none⟩) ∧ ρ 9 = .pointer (some ⟨b9, 0, none⟩) ∧ ρ 10 = .int .i64 P ∧ Dr BB (R * Dev d t * pt b5 (cl [v1, .slice ac m cc, v3, v4] 56) * pt b8 (cl [.int .i64 x.q, .int .i64 x.p, .slice x.a x.b.length x.c, .bool x.fl, .bool x.fe] 118) * pt b9 (cl [.int .i64 e.1, .int .i64 e.2] 74))) ?_ ?_
        · skip
          refine tc_cond rfl (fun h => ?_) (fun h => ?_)
          · have hgt : H < x.b.length := by first | (have := of_decide_eq_true h; omega) | (simp at h; omega)
            refine tc_reg ?_; refine tlm ?_; refine tv (o_fieldAddr (o := 1) Try.underlying74 rfl rfl sz3 rfl) ?_; refine tv (by first | exact o_load p3 rfl (by repeat (first | with_reducible exact has_here | with_reducible exact has_pt | apply has_left)) rfl | exact o_loadC p3 rfl (by assumption)) ?_; refine tlm ?_; refine tv (o_subI rfl rfl (by omega)) ?_; refine tl_env (d := 61) (v := .int .i64 ((H : Nat) : Int)) (by show Value.int .i64 (e.2 - P) = _; rw [hH]) ?_; refine tv (o_slice (l := 0) (h := H) Try.underlying60 sz5 rfl bnd_none (bnd_nat rfl) (by omega) (by omega)) ?_; refine tl_env (d := 62) (v := .slice x.a H x.c) (by show Value.slice (cutAddr _ _ 0 1) (H - 0) (x.c - 0) = _; rw [show cutAddr x.a x.c 0 1 = x.a by unfold cutAddr; cases x.a <;> simp [Addr.add]]; rfl) ?_; refine tla ?_; refine tl_nil ?_; exact ⟨_, by omega, by omega, rfl, rfl, rfl, rfl, rfl, rfl, rfl, rfl, (by repeat (first | with_reducible exact dr_refl | apply dr_keep | apply dr_drop))⟩
          · have hgt : ¬ H < x.b.length := by first | (have := of_decide_eq_false h; omega) | (simp at h; omega)
            refine tc_skip ?_; exact ⟨_, by omega, by omega, rfl, rfl, rfl, rfl, rfl, rfl, rfl, rfl, (by repeat (first | with_reducible exact dr_refl | apply dr_keep | apply dr_drop))⟩
        · intro ρ B hI
          obtain ⟨nb, hnb0, hnb1, hE11, hE0, hE1, hE5, hE7, hE8, hE9, hE10, hBA⟩ := hI
          refine q_then_n ?_; refine tc_pre hBA.sat ?_
          clear hBA
          refine tc_env (d := 11) hE11 ?_; refine tc_env (d := 0) hE0 ?_; refine tc_env (d := 1) hE1 ?_; refine tc_env (d := 5) hE5 ?_; refine tc_env (d := 7) hE7 ?_; refine tc_env (d := 8) hE8 ?_; refine tc_env (d := 9) hE9 ?_; refine tc_env (d := 10) hE10 ?_
          clear hE11 hE0 hE1 hE5 hE7 hE8 hE9 hE10
          refine tc_seq ?_; refine tc_regh (S := R) mo (by repeat (first | with_reducible exact dr_refl | apply dr_keep | apply dr_drop)) ?_
          show TH _ _ _ _ _ 9 #[ff,ff,ff,ff,ff,ff,ff,ff,ff] _ _
          refine th_take (i := 0) (listed' := #[tt,ff,ff,ff,ff,ff,ff,ff,ff]) rfl (by kernel_rfl) (by kernel_rfl) (by kernel_rfl) rfl rfl (o_move (by conv => lhs; whnf)) ?_; refine th_take (i := 1) (listed' := #[tt,tt,ff,ff,ff,ff,ff,ff,ff]) rfl (by kernel_rfl) (by kernel_rfl) (by kernel_rfl) rfl rfl (o_fieldAddr (o := 0) Try.underlying74 rfl rfl sz3 rfl) ?_; refine th_take (i := 3) (listed' := #[tt,tt,ff,tt,ff,ff,ff,ff,ff]) rfl (by kernel_rfl) (by kernel_rfl) (by kernel_rfl) rfl rfl (o_move (by conv => lhs; whnf)) ?_; refine th_take (i := 5) (listed' := #[tt,tt,ff,tt,ff,tt,ff,ff,ff]) rfl (by kernel_rfl) (by kernel_rfl) (by kernel_rfl) rfl rfl (o_move (by conv => lhs; whnf)) ?_; refine th_two (i := 2) (j := 6) (by kernel_rfl) ?_ ?_
          · skip
            refine oh_v (i := 2) (listed' := #[tt,tt,tt,tt,ff,tt,ff,ff,ff]) rfl rfl rfl (by first | exact o_load p3 rfl (by repeat (first | with_reducible exact has_here | with_reducible exact has_pt | apply has_left)) rfl | exact o_loadC p3 rfl (by assumption)) ?_; refine th_take (i := 4) (listed' := #[tt,tt,tt,tt,tt,tt,ff,ff,ff]) rfl (by kernel_rfl) (by kernel_rfl) (by kernel_rfl) rfl rfl (o_addI rfl rfl (by omega)) ?_; refine th_one (i := 6) (by kernel_rfl) ?_; refine oh_c (i := 6) (listed' := #[tt,tt,tt,tt,tt,tt,tt,ff,ff]) rfl rfl rfl (o_call bd59 rfl (CopyBytes_c (xs := x.b.take nb) (hr := eq_take (by repeat (first | exact hxw.rs | with_reducible exact rs_sl | with_reducible exact rs_pt0 | apply Rs.left))) (hm := by rw [List.length_take]; omega))) ?_; rintro _ _ ⟨a69, c69, rfl, hc69, rfl⟩; refine ⟨by repeat (first | with_reducible exact dr_refl | apply dr_keep | apply dr_drop), ?_⟩; refine th_one (i := 7) (by kernel_rfl) ?_; refine oh_c (i := 7) (listed' := #[tt,tt,tt,tt,tt,tt,tt,tt,ff]) rfl rfl rfl (o_call bd47 rfl (Store_c (s := t) (p := e.1 + P) (xs := x.b.take nb) (hm := by rw [List.length_take]; omega) (hb := fun y hy => hxw.by_ y (List.mem_of_mem_take hy)) (hroom := fun _ => room_le hp1.room (by omega)))) ?_; rintro _ _ ⟨e70, s70, hs70, rfl, rfl⟩; refine ⟨by repeat (first | with_reducible exact dr_refl | apply dr_keep | apply dr_drop), ?_⟩
            obtain ⟨hz1, hz2, hz3, hz4⟩ := cst_sto (r := r + 40 * (m - i) - 40) hX hem (cst_le hp1 (by omega)) hO (by omega) (by rw [List.length_take]; omega) (fun y hy => hxw.by_ y (List.mem_of_mem_take hy)) hs70
            refine th_take (i := 8) (listed' := #[tt,tt,tt,tt,tt,tt,tt,tt,tt]) rfl (by kernel_rfl) (by kernel_rfl) (by kernel_rfl) rfl rfl (o_assign (by conv => lhs; whnf)) ?_; refine th_done (by kernel_rfl) ?_; refine q_then_n ?_; refine tc_seq ?_; refine tc_seq ?_; refine tc_cut (fun ρ BB => ρ 76 = .bool false ∧ ρ 0 = .pointer (some ⟨d, 0, none⟩) ∧ ρ 1 = .slice al n cx ∧ ρ 5 = .pointer (some ⟨b5, 0, none⟩) ∧ ρ 7 = .int .i64 (i : Nat) ∧ ρ 8 = .pointer (some ⟨b8, 0, none⟩) ∧ ρ 9 = .pointer (some ⟨b9, 0, none⟩) ∧ ρ 10 = .int .i64 P ∧ Dr BB (R * Dev d s70 * pt b5 (cl [v1, .slice ac m cc, v3, v4] 56) * pt b8 (cl [.int .i64 x.q, .int .i64 x.p, .slice x.a x.b.length x.c, .bool x.fl, .bool x.fe] 118) * pt b9 (cl [.int .i64 e.1, .int .i64 e.2] 74))) ?_ ?_
            · skip
              refine tc_reg ?_; refine tlm ?_; refine tv (o_nei rfl rfl) ?_; refine tlm ?_; refine tl_bool (d := 73) rfl (fun h => ?_) (fun h => ?_)
              · have g73 : (e70 ≠ 0) := by first | exact of_decide_eq_true h | (have h2 := h; simp at h2; omega) | simpa using h
                refine tlm ?_; refine tv (o_nei rfl rfl) ?_; refine tl_env (d := 75) (v := .bool false) (by show Value.bool (decide _) = _; rw [decide_eq_false (by omega)]) ?_; refine tv (o_pick_t rfl (by conv => lhs; whnf)) ?_; refine tl_nil ?_; exact ⟨rfl, rfl, rfl, rfl, rfl, rfl, rfl, rfl, (by repeat (first | with_reducible exact dr_refl | apply dr_keep | apply dr_drop))⟩
              · have g73 : ¬ (e70 ≠ 0) := by first | exact of_decide_eq_false h | (have h2 := h; simp at h2; omega) | simpa using h
                refine tk ?_; refine tk ?_; refine tv (o_pick_f rfl (by conv => lhs; whnf)) ?_; refine tl_nil ?_; exact ⟨rfl, rfl, rfl, rfl, rfl, rfl, rfl, rfl, (by repeat (first | with_reducible exact dr_refl | apply dr_keep | apply dr_drop))⟩
            · intro ρ B hI
              obtain ⟨hE76, hE0, hE1, hE5, hE7, hE8, hE9, hE10, hBA⟩ := hI
              refine q_then_n ?_; refine tc_pre hBA.sat ?_
              clear hBA
              refine tc_env (d := 76) hE76 ?_; refine tc_env (d := 0) hE0 ?_; refine tc_env (d := 1) hE1 ?_; refine tc_env (d := 5) hE5 ?_; refine tc_env (d := 7) hE7 ?_; refine tc_env (d := 8) hE8 ?_; refine tc_env (d := 9) hE9 ?_; refine tc_env (d := 10) hE10 ?_
              clear hE76 hE0 hE1 hE5 hE7 hE8 hE9 hE10
              refine tc_cond rfl (fun h => ?_) (fun h => ?_)
              · exfalso; simp at h
              · try simp only [lv1, lv2, lv3, lv4, lv5, lv6, Bool.not_true, Bool.not_false] at h
                refine tc_skip ?_; refine q_then_n ?_; refine tc_seq ?_; refine tc_seq ?_; refine tc_cut (fun ρ BB => ∃ (b1 : Bool), ρ 83 = .bool b1 ∧ ρ 0 = .pointer (some ⟨d, 0, none⟩) ∧ ρ 1 = .slice al n cx ∧ ρ 5 = .pointer (some ⟨b5, 0, none⟩) ∧ ρ 7 = .int .i64 (i : Nat) ∧ ρ 8 = .pointer (some ⟨b8, 0, none⟩) ∧ ρ 9 = .pointer (some ⟨b9, 0, none⟩) ∧ ρ 10 = .int .i64 P ∧ Dr BB (R * Dev d s70 * pt b5 (cl [v1, .slice ac m cc, v3, v4] 56) * pt b8 (cl [.int .i64 x.q, .int .i64 x.p, .slice x.a x.b.length x.c, .bool x.fl, .bool x.fe] 118) * pt b9 (cl [.int .i64 e.1, .int .i64 e.2] 74))) ?_ ?_
                · skip
                  refine tc_reg ?_; refine tv (o_fieldAddr (o := 3) Try.underlying118 rfl rfl sz4 rfl) ?_; refine tv (by first | exact o_load p4 rfl (by repeat (first | with_reducible exact has_here | with_reducible exact has_pt | apply has_left)) rfl | exact o_loadC p4 rfl (by assumption)) ?_; refine tlm ?_; refine tl_bool (d := 79) rfl (fun h => ?_) (fun h => ?_)
                  · try simp only [lv1, lv2, lv3, lv4, lv5, lv6, Bool.not_true, Bool.not_false] at h
                    refine tlm ?_; refine tl_c rfl (o_call bd32 rfl (Off_c (s := s70))) ?_; rintro _ _ ⟨rfl, rfl⟩; refine tv (o_not rfl) ?_; refine tv (o_pick_t rfl (by conv => lhs; whnf)) ?_; refine tl_nil ?_; exact ⟨_, rfl, rfl, rfl, rfl, rfl, rfl, rfl, rfl, (by repeat (first | with_reducible exact dr_refl | apply dr_keep | apply dr_drop))⟩
                  · try simp only [lv1, lv2, lv3, lv4, lv5, lv6, Bool.not_true, Bool.not_false] at h
                    refine tk ?_; refine tk ?_; refine tk ?_; refine tv (o_pick_f rfl (by conv => lhs; whnf)) ?_; refine tl_nil ?_; exact ⟨_, rfl, rfl, rfl, rfl, rfl, rfl, rfl, rfl, (by repeat (first | with_reducible exact dr_refl | apply dr_keep | apply dr_drop))⟩
                · intro ρ B hI
                  obtain ⟨b1, hE83, hE0, hE1, hE5, hE7, hE8, hE9, hE10, hBA⟩ := hI
                  refine q_then_n ?_; refine tc_pre hBA.sat ?_
                  clear hBA
                  refine tc_env (d := 83) hE83 ?_; refine tc_env (d := 0) hE0 ?_; refine tc_env (d := 1) hE1 ?_; refine tc_env (d := 5) hE5 ?_; refine tc_env (d := 7) hE7 ?_; refine tc_env (d := 8) hE8 ?_; refine tc_env (d := 9) hE9 ?_; refine tc_env (d := 10) hE10 ?_
                  clear hE83 hE0 hE1 hE5 hE7 hE8 hE9 hE10
                  refine tc_cut (fun ρ BB => ∃ (t3 : DevS), (CSt X I (r + 40 * (m - i) - 40) t3) ∧ (phi t3 ≤ phi s) ∧ ρ 0 = .pointer (some ⟨d, 0, none⟩) ∧ ρ 1 = .slice al n cx ∧ ρ 5 = .pointer (some ⟨b5, 0, none⟩) ∧ ρ 7 = .int .i64 (i : Nat) ∧ ρ 8 = .pointer (some ⟨b8, 0, none⟩) ∧ Dr BB (R * Dev d t3 * pt b5 (cl [v1, .slice ac m cc, v3, v4] 56) * pt b8 (cl [.int .i64 x.q, .int .i64 x.p, .slice x.a x.b.length x.c, .bool x.fl, .bool x.fe] 118) * pt b9 (cl [.int .i64 e.1, .int .i64 e.2] 74))) ?_ ?_
                  · skip
                    refine tc_cond rfl (fun h => ?_) (fun h => ?_)
                    · try simp only [lv1, lv2, lv3, lv4, lv5, lv6, Bool.not_true, Bool.not_false] at h
                      refine tc_reg ?_; refine tlm ?_; refine tv (o_fieldAddr (o := 0) Try.underlying74 rfl rfl sz3 rfl) ?_; refine tv (by first | exact o_load p3 rfl (by repeat (first | with_reducible exact has_here | with_reducible exact has_pt | apply has_left)) rfl | exact o_loadC p3 rfl (by assumption)) ?_; refine tlm ?_; refine tv (o_addI rfl rfl (by omega)) ?_; refine tl_c rfl (o_call bd64 rfl (Flush_c (s := s70) (p := e.1 + P))) ?_; rintro _ _ ⟨e89, s89, hs89, rfl, rfl⟩
                      have hf1 := cst_fl1 hz3 hs89
                      refine tl_nil ?_; exact ⟨_, by first | exact hf1.1 | exact hz3, by first | exact Nat.le_trans hf1.2 (by omega) | omega, rfl, rfl, rfl, rfl, rfl, (by repeat (first | with_reducible exact dr_refl | apply dr_keep | apply dr_drop))⟩
                    · try simp only [lv1, lv2, lv3, lv4, lv5, lv6, Bool.not_true, Bool.not_false] at h
                      refine tc_skip ?_; exact ⟨_, by first | exact hf1.1 | exact hz3, by first | exact Nat.le_trans hf1.2 (by omega) | omega, rfl, rfl, rfl, rfl, rfl, (by repeat (first | with_reducible exact dr_refl | apply dr_keep | apply dr_drop))⟩
                  · intro ρ B hI
                    obtain ⟨t3, hj30, hj31, hE0, hE1, hE5, hE7, hE8, hBA⟩ := hI
                    refine q_then_n ?_; refine tc_pre hBA.sat ?_
                    clear hBA
                    refine tc_env (d := 0) hE0 ?_; refine tc_env (d := 1) hE1 ?_; refine tc_env (d := 5) hE5 ?_; refine tc_env (d := 7) hE7 ?_; refine tc_env (d := 8) hE8 ?_
                    clear hE0 hE1 hE5 hE7 hE8
                    refine tc_seq ?_; refine tc_cut (fun ρ BB => ∃ (b2 : Bool), ρ 96 = .bool b2 ∧ ρ 0 = .pointer (some ⟨d, 0, none⟩) ∧ ρ 1 = .slice al n cx ∧ ρ 5 = .pointer (some ⟨b5, 0, none⟩) ∧ ρ 7 = .int .i64 (i : Nat) ∧ Dr BB (R * Dev d t3 * pt b5 (cl [v1, .slice ac m cc, v3, v4] 56) * pt b8 (cl [.int .i64 x.q, .int .i64 x.p, .slice x.a x.b.length x.c, .bool x.fl, .bool x.fe] 118) * pt b9 (cl [.int .i64 e.1, .int .i64 e.2] 74))) ?_ ?_
                    · skip
                      refine tc_reg ?_; refine tv (o_fieldAddr (o := 4) Try.underlying118 rfl rfl sz4 rfl) ?_; refine tv (by first | exact o_load p4 rfl (by repeat (first | with_reducible exact has_here | with_reducible exact has_pt | apply has_left)) rfl | exact o_loadC p4 rfl (by assumption)) ?_; refine tlm ?_; refine tl_bool (d := 92) rfl (fun h => ?_) (fun h => ?_)
                      · try simp only [lv1, lv2, lv3, lv4, lv5, lv6, Bool.not_true, Bool.not_false] at h
                        refine tlm ?_; refine tl_c rfl (o_call bd32 rfl (Off_c (s := t3))) ?_; rintro _ _ ⟨rfl, rfl⟩; refine tv (o_not rfl) ?_; refine tv (o_pick_t rfl (by conv => lhs; whnf)) ?_; refine tl_nil ?_; exact ⟨_, rfl, rfl, rfl, rfl, rfl, (by repeat (first | with_reducible exact dr_refl | apply dr_keep | apply dr_drop))⟩
                      · try simp only [lv1, lv2, lv3, lv4, lv5, lv6, Bool.not_true, Bool.not_false] at h
                        refine tk ?_; refine tk ?_; refine tk ?_; refine tv (o_pick_f rfl (by conv => lhs; whnf)) ?_; refine tl_nil ?_; exact ⟨_, rfl, rfl, rfl, rfl, rfl, (by repeat (first | with_reducible exact dr_refl | apply dr_keep | apply dr_drop))⟩
                    · intro ρ B hI
                      obtain ⟨b2, hE96, hE0, hE1, hE5, hE7, hBA⟩ := hI
                      refine q_then_n ?_; refine tc_pre hBA.sat ?_
                      clear hBA
                      refine tc_env (d := 96) hE96 ?_; refine tc_env (d := 0) hE0 ?_; refine tc_env (d := 1) hE1 ?_; refine tc_env (d := 5) hE5 ?_; refine tc_env (d := 7) hE7 ?_
                      clear hE96 hE0 hE1 hE5 hE7
                      refine tc_cut (fun ρ BB => ∃ (t5 : DevS), (CSt X I (r + 40 * (m - i) - 40) t5) ∧ (phi t5 ≤ phi s) ∧ ρ 0 = .pointer (some ⟨d, 0, none⟩) ∧ ρ 1 = .slice al n cx ∧ ρ 5 = .pointer (some ⟨b5, 0, none⟩) ∧ ρ 7 = .int .i64 (i : Nat) ∧ Dr BB (R * Dev d t5 * pt b5 (cl [v1, .slice ac m cc, v3, v4] 56) * pt b8 (cl [.int .i64 x.q, .int .i64 x.p, .slice x.a x.b.length x.c, .bool x.fl, .bool x.fe] 118) * pt b9 (cl [.int .i64 e.1, .int .i64 e.2] 74))) ?_ ?_
                      · skip
                        refine tc_cond rfl (fun h => ?_) (fun h => ?_)
                        · try simp only [lv1, lv2, lv3, lv4, lv5, lv6, Bool.not_true, Bool.not_false] at h
                          refine tc_reg ?_; refine tlm ?_; refine tl_c rfl (o_call bd65 rfl (Fence_c (s := t3))) ?_; rintro _ _ ⟨e98, s98, hs98, rfl, rfl⟩
                          have hf2 := cst_fe hj30 hs98
                          refine tl_nil ?_; exact ⟨_, by first | exact hf2.1 | exact hj30, by first | exact Nat.le_trans hf2.2 (by omega) | omega, rfl, rfl, rfl, rfl, (by repeat (first | with_reducible exact dr_refl | apply dr_keep | apply dr_drop))⟩
                        · try simp only [lv1, lv2, lv3, lv4, lv5, lv6, Bool.not_true, Bool.not_false] at h
                          refine tc_skip ?_; exact ⟨_, by first | exact hf2.1 | exact hj30, by first | exact Nat.le_trans hf2.2 (by omega) | omega, rfl, rfl, rfl, rfl, (by repeat (first | with_reducible exact dr_refl | apply dr_keep | apply dr_drop))⟩
                      · intro ρ B hI
                        obtain ⟨t5, hz0, hz1, hE0, hE1, hE5, hE7, hBA⟩ := hI
                        refine q_block_n (q_then_n ?_); refine tc_pre hBA.sat ?_
                        clear hBA
                        refine tc_env (d := 0) hE0 ?_; refine tc_env (d := 1) hE1 ?_; refine tc_env (d := 5) hE5 ?_; refine tc_env (d := 7) hE7 ?_
                        clear hE0 hE1 hE5 hE7
                        refine tc_reg ?_; refine tlm ?_; refine tv (by first | exact o_addI rfl rfl (by omega) | exact o_add rfl rfl) ?_; refine tla ?_; refine nq ?_; exact ⟨_, by omega, i + 1, t5, by omega, cst_le hz0 (by omega), by omega, rfl, rfl, rfl, rfl, rfl, (by repeat (first | with_reducible exact dr_refl | apply dr_keep | apply dr_drop))⟩
          · skip
            refine oh_c (i := 6) (listed' := #[tt,tt,ff,tt,ff,tt,tt,ff,ff]) rfl rfl rfl (o_call bd59 rfl (CopyBytes_c (xs := x.b.take nb) (hr := eq_take (by repeat (first | exact hxw.rs | with_reducible exact rs_sl | with_reducible exact rs_pt0 | apply Rs.left))) (hm := by rw [List.length_take]; omega))) ?_; rintro _ _ ⟨a69, c69, rfl, hc69, rfl⟩; refine ⟨by repeat (first | with_reducible exact dr_refl | apply dr_keep | apply dr_drop), ?_⟩; refine th_one (i := 2) (by kernel_rfl) ?_; refine oh_v (i := 2) (listed' := #[tt,tt,tt,tt,ff,tt,tt,ff,ff]) rfl rfl rfl (by first | exact o_load p3 rfl (by repeat (first | with_reducible exact has_here | with_reducible exact has_pt | apply has_left)) rfl | exact o_loadC p3 rfl (by assumption)) ?_; refine th_take (i := 4) (listed' := #[tt,tt,tt,tt,tt,tt,tt,ff,ff]) rfl (by kernel_rfl) (by kernel_rfl) (by kernel_rfl) rfl rfl (o_addI rfl rfl (by omega)) ?_; refine th_one (i := 7) (by kernel_rfl) ?_; refine oh_c (i := 7) (listed' := #[tt,tt,tt,tt,tt,tt,tt,tt,ff]) rfl rfl rfl (o_call bd47 rfl (Store_c (s := t) (p := e.1 + P) (xs := x.b.take nb) (hm := by rw [List.length_take]; omega) (hb := fun y hy => hxw.by_ y (List.mem_of_mem_take hy)) (hroom := fun _ => room_le hp1.room (by omega)))) ?_; rintro _ _ ⟨e70, s70, hs70, rfl, rfl⟩; refine ⟨by repeat (first | with_reducible exact dr_refl | apply dr_keep | apply dr_drop), ?_⟩
            obtain ⟨hz1, hz2, hz3, hz4⟩ := cst_sto (r := r + 40 * (m - i) - 40) hX hem (cst_le hp1 (by omega)) hO (by omega) (by rw [List.length_take]; omega) (fun y hy => hxw.by_ y (List.mem_of_mem_take hy)) hs70
            refine th_take (i := 8) (listed' := #[tt,tt,tt,tt,tt,tt,tt,tt,tt]) rfl (by kernel_rfl) (by kernel_rfl) (by kernel_rfl) rfl rfl (o_assign (by conv => lhs; whnf)) ?_; refine th_done (by kernel_rfl) ?_; refine q_then_n ?_; refine tc_seq ?_; refine tc_seq ?_; refine tc_cut (fun ρ BB => ρ 76 = .bool false ∧ ρ 0 = .pointer (some ⟨d, 0, none⟩) ∧ ρ 1 = .slice al n cx ∧ ρ 5 = .pointer (some ⟨b5, 0, none⟩) ∧ ρ 7 = .int .i64 (i : Nat) ∧ ρ 8 = .pointer (some ⟨b8, 0, none⟩) ∧ ρ 9 = .pointer (some ⟨b9, 0, none⟩) ∧ ρ 10 = .int .i64 P ∧ Dr BB (R * Dev d s70 * pt b5 (cl [v1, .slice ac m cc, v3, v4] 56) * pt b8 (cl [.int .i64 x.q, .int .i64 x.p, .slice x.a x.b.length x.c, .bool x.fl, .bool x.fe] 118) * pt b9 (cl [.int .i64 e.1, .int .i64 e.2] 74))) ?_ ?_
            · skip
              refine tc_reg ?_; refine tlm ?_; refine tv (o_nei rfl rfl) ?_; refine tlm ?_; refine tl_bool (d := 73) rfl (fun h => ?_) (fun h => ?_)
              · have g73 : (e70 ≠ 0) := by first | exact of_decide_eq_true h | (have h2 := h; simp at h2; omega) | simpa using h
                refine tlm ?_; refine tv (o_nei rfl rfl) ?_; refine tl_env (d := 75) (v := .bool false) (by show Value.bool (decide _) = _; rw [decide_eq_false (by omega)]) ?_; refine tv (o_pick_t rfl (by conv => lhs; whnf)) ?_; refine tl_nil ?_; exact ⟨rfl, rfl, rfl, rfl, rfl, rfl, rfl, rfl, (by repeat (first | with_reducible exact dr_refl | apply dr_keep | apply dr_drop))⟩
              · have g73 : ¬ (e70 ≠ 0) := by first | exact of_decide_eq_false h | (have h2 := h; simp at h2; omega) | simpa using h
                refine tk ?_; refine tk ?_; refine tv (o_pick_f rfl (by conv => lhs; whnf)) ?_; refine tl_nil ?_; exact ⟨rfl, rfl, rfl, rfl, rfl, rfl, rfl, rfl, (by repeat (first | with_reducible exact dr_refl | apply dr_keep | apply dr_drop))⟩
            · intro ρ B hI
              obtain ⟨hE76, hE0, hE1, hE5, hE7, hE8, hE9, hE10, hBA⟩ := hI
              refine q_then_n ?_; refine tc_pre hBA.sat ?_
              clear hBA
              refine tc_env (d := 76) hE76 ?_; refine tc_env (d := 0) hE0 ?_; refine tc_env (d := 1) hE1 ?_; refine tc_env (d := 5) hE5 ?_; refine tc_env (d := 7) hE7 ?_; refine tc_env (d := 8) hE8 ?_; refine tc_env (d := 9) hE9 ?_; refine tc_env (d := 10) hE10 ?_
              clear hE76 hE0 hE1 hE5 hE7 hE8 hE9 hE10
              refine tc_cond rfl (fun h => ?_) (fun h => ?_)
              · exfalso; simp at h
              · try simp only [lv1, lv2, lv3, lv4, lv5, lv6, Bool.not_true, Bool.not_false] at h
                refine tc_skip ?_; refine q_then_n ?_; refine tc_seq ?_; refine tc_seq ?_; refine tc_cut (fun ρ BB => ∃ (b1 : Bool), ρ 83 = .bool b1 ∧ ρ 0 = .pointer (some ⟨d, 0, none⟩) ∧ ρ 1 = .slice al n cx ∧ ρ 5 = .pointer (some ⟨b5, 0, none⟩) ∧ ρ 7 = .int .i64 (i : Nat) ∧ ρ 8 = .pointer (some ⟨b8, 0, none⟩) ∧ ρ 9 = .pointer (some ⟨b9, 0, none⟩) ∧ ρ 10 = .int .i64 P ∧ Dr BB (R * Dev d s70 * pt b5 (cl [v1, .slice ac m cc, v3, v4] 56) * pt b8 (cl [.int .i64 x.q, .int .i64 x.p, .slice x.a x.b.length x.c, .bool x.fl, .bool x.fe] 118) * pt b9 (cl [.int .i64 e.1, .int .i64 e.2] 74))) ?_ ?_
                · skip
                  refine tc_reg ?_; refine tv (o_fieldAddr (o := 3) Try.underlying118 rfl rfl sz4 rfl) ?_; refine tv (by first | exact o_load p4 rfl (by repeat (first | with_reducible exact has_here | with_reducible exact has_pt | apply has_left)) rfl | exact o_loadC p4 rfl (by assumption)) ?_; refine tlm ?_; refine tl_bool (d := 79) rfl (fun h => ?_) (fun h => ?_)
                  · try simp only [lv1, lv2, lv3, lv4, lv5, lv6, Bool.not_true, Bool.not_false] at h
                    refine tlm ?_; refine tl_c rfl (o_call bd32 rfl (Off_c (s := s70))) ?_; rintro _ _ ⟨rfl, rfl⟩; refine tv (o_not rfl) ?_; refine tv (o_pick_t rfl (by conv => lhs; whnf)) ?_; refine tl_nil ?_; exact ⟨_, rfl, rfl, rfl, rfl, rfl, rfl, rfl, rfl, (by repeat (first | with_reducible exact dr_refl | apply dr_keep | apply dr_drop))⟩
                  · try simp only [lv1, lv2, lv3, lv4, lv5, lv6, Bool.not_true, Bool.not_false] at h
                    refine tk ?_; refine tk ?_; refine tk ?_; refine tv (o_pick_f rfl (by conv => lhs; whnf)) ?_; refine tl_nil ?_; exact ⟨_, rfl, rfl, rfl, rfl, rfl, rfl, rfl, rfl, (by repeat (first | with_reducible exact dr_refl | apply dr_keep | apply dr_drop))⟩
                · intro ρ B hI
                  obtain ⟨b1, hE83, hE0, hE1, hE5, hE7, hE8, hE9, hE10, hBA⟩ := hI
                  refine q_then_n ?_; refine tc_pre hBA.sat ?_
                  clear hBA
                  refine tc_env (d := 83) hE83 ?_; refine tc_env (d := 0) hE0 ?_; refine tc_env (d := 1) hE1 ?_; refine tc_env (d := 5) hE5 ?_; refine tc_env (d := 7) hE7 ?_; refine tc_env (d := 8) hE8 ?_; refine tc_env (d := 9) hE9 ?_; refine tc_env (d := 10) hE10 ?_
                  clear hE83 hE0 hE1 hE5 hE7 hE8 hE9 hE10
                  refine tc_cut (fun ρ BB => ∃ (t3 : DevS), (CSt X I (r + 40 * (m - i) - 40) t3) ∧ (phi t3 ≤ phi s) ∧ ρ 0 = .pointer (some ⟨d, 0, none⟩) ∧ ρ 1 = .slice al n cx ∧ ρ 5 = .pointer (some ⟨b5, 0, none⟩) ∧ ρ 7 = .int .i64 (i : Nat) ∧ ρ 8 = .pointer (some ⟨b8, 0, none⟩) ∧ Dr BB (R * Dev d t3 * pt b5 (cl [v1, .slice ac m cc, v3, v4] 56) * pt b8 (cl [.int .i64 x.q, .int .i64 x.p, .slice x.a x.b.length x.c, .bool x.fl, .bool x.fe] 118) * pt b9 (cl [.int .i64 e.1, .int .i64 e.2] 74))) ?_ ?_
                  · skip
                    refine tc_cond rfl (fun h => ?_) (fun h => ?_)
                    · try simp only [lv1, lv2, lv3, lv4, lv5, lv6, Bool.not_true, Bool.not_false] at h
                      refine tc_reg ?_; refine tlm ?_; refine tv (o_fieldAddr (o := 0) Try.underlying74 rfl rfl sz3 rfl) ?_; refine tv (by first | exact o_load p3 rfl (by repeat (first | with_reducible exact has_here | with_reducible exact has_pt | apply has_left)) rfl | exact o_loadC p3 rfl (by assumption)) ?_; refine tlm ?_; refine tv (o_addI rfl rfl (by omega)) ?_; refine tl_c rfl (o_call bd64 rfl (Flush_c (s := s70) (p := e.1 + P))) ?_; rintro _ _ ⟨e89, s89, hs89, rfl, rfl⟩
                      have hf1 := cst_fl1 hz3 hs89
                      refine tl_nil ?_; exact ⟨_, by first | exact hf1.1 | exact hz3, by first | exact Nat.le_trans hf1.2 (by omega) | omega, rfl, rfl, rfl, rfl, rfl, (by repeat (first | with_reducible exact dr_refl | apply dr_keep | apply dr_drop))⟩
                    · try simp only [lv1, lv2, lv3, lv4, lv5, lv6, Bool.not_true, Bool.not_false] at h
                      refine tc_skip ?_; exact ⟨_, by first | exact hf1.1 | exact hz3, by first | exact Nat.le_trans hf1.2 (by omega) | omega, rfl, rfl, rfl, rfl, rfl, (by repeat (first | with_reducible exact dr_refl | apply dr_keep | apply dr_drop))⟩
                  · intro ρ B hI
                    obtain ⟨t3, hj30, hj31, hE0, hE1, hE5, hE7, hE8, hBA⟩ := hI
                    refine q_then_n ?_; refine tc_pre hBA.sat ?_
                    clear hBA
                    refine tc_env (d := 0) hE0 ?_; refine tc_env (d := 1) hE1 ?_; refine tc_env (d := 5) hE5 ?_; refine tc_env (d := 7) hE7 ?_; refine tc_env (d := 8) hE8 ?_
                    clear hE0 hE1 hE5 hE7 hE8
                    refine tc_seq ?_; refine tc_cut (fun ρ BB => ∃ (b2 : Bool), ρ 96 = .bool b2 ∧ ρ 0 = .pointer (some ⟨d, 0, none⟩) ∧ ρ 1 = .slice al n cx ∧ ρ 5 = .pointer (some ⟨b5, 0, none⟩) ∧ ρ 7 = .int .i64 (i : Nat) ∧ Dr BB (R * Dev d t3 * pt b5 (cl [v1, .slice ac m cc, v3, v4] 56) * pt b8 (cl [.int .i64 x.q, .int .i64 x.p, .slice x.a x.b.length x.c, .bool x.fl, .bool x.fe] 118) * pt b9 (cl [.int .i64 e.1, .int .i64 e.2] 74))) ?_ ?_
                    · skip
                      refine tc_reg ?_; refine tv (o_fieldAddr (o := 4) Try.underlying118 rfl rfl sz4 rfl) ?_; refine tv (by first | exact o_load p4 rfl (by repeat (first | with_reducible exact has_here | with_reducible exact has_pt | apply has_left)) rfl | exact o_loadC p4 rfl (by assumption)) ?_; refine tlm ?_; refine tl_bool (d := 92) rfl (fun h => ?_) (fun h => ?_)
                      · try simp only [lv1, lv2, lv3, lv4, lv5, lv6, Bool.not_true, Bool.not_false] at h
                        refine tlm ?_; refine tl_c rfl (o_call bd32 rfl (Off_c (s := t3))) ?_; rintro _ _ ⟨rfl, rfl⟩; refine tv (o_not rfl) ?_; refine tv (o_pick_t rfl (by conv => lhs; whnf)) ?_; refine tl_nil ?_; exact ⟨_, rfl, rfl, rfl, rfl, rfl, (by repeat (first | with_reducible exact dr_refl | apply dr_keep | apply dr_drop))⟩
                      · try simp only [lv1, lv2, lv3, lv4, lv5, lv6, Bool.not_true, Bool.not_false] at h
                        refine tk ?_; refine tk ?_; refine tk ?_; refine tv (o_pick_f rfl (by conv => lhs; whnf)) ?_; refine tl_nil ?_; exact ⟨_, rfl, rfl, rfl, rfl, rfl, (by repeat (first | with_reducible exact dr_refl | apply dr_keep | apply dr_drop))⟩
                    · intro ρ B hI
                      obtain ⟨b2, hE96, hE0, hE1, hE5, hE7, hBA⟩ := hI
                      refine q_then_n ?_; refine tc_pre hBA.sat ?_
                      clear hBA
                      refine tc_env (d := 96) hE96 ?_; refine tc_env (d := 0) hE0 ?_; refine tc_env (d := 1) hE1 ?_; refine tc_env (d := 5) hE5 ?_; refine tc_env (d := 7) hE7 ?_
                      clear hE96 hE0 hE1 hE5 hE7
                      refine tc_cut (fun ρ BB => ∃ (t5 : DevS), (CSt X I (r + 40 * (m - i) - 40) t5) ∧ (phi t5 ≤ phi s) ∧ ρ 0 = .pointer (some ⟨d, 0, none⟩) ∧ ρ 1 = .slice al n cx ∧ ρ 5 = .pointer (some ⟨b5, 0, none⟩) ∧ ρ 7 = .int .i64 (i : Nat) ∧ Dr BB (R * Dev d t5 * pt b5 (cl [v1, .slice ac m cc, v3, v4] 56) * pt b8 (cl [.int .i64 x.q, .int .i64 x.p, .slice x.a x.b.length x.c, .bool x.fl, .bool x.fe] 118) * pt b9 (cl [.int .i64 e.1, .int .i64 e.2] 74))) ?_ ?_
                      · skip
                        refine tc_cond rfl (fun h => ?_) (fun h => ?_)
                        · try simp only [lv1, lv2, lv3, lv4, lv5, lv6, Bool.not_true, Bool.not_false] at h
                          refine tc_reg ?_; refine tlm ?_; refine tl_c rfl (o_call bd65 rfl (Fence_c (s := t3))) ?_; rintro _ _ ⟨e98, s98, hs98, rfl, rfl⟩
                          have hf2 := cst_fe hj30 hs98
                          refine tl_nil ?_; exact ⟨_, by first | exact hf2.1 | exact hj30, by first | exact Nat.le_trans hf2.2 (by omega) | omega, rfl, rfl, rfl, rfl, (by repeat (first | with_reducible exact dr_refl | apply dr_keep | apply dr_drop))⟩
                        · try simp only [lv1, lv2, lv3, lv4, lv5, lv6, Bool.not_true, Bool.not_false] at h
                          refine tc_skip ?_; exact ⟨_, by first | exact hf2.1 | exact hj30, by first | exact Nat.le_trans hf2.2 (by omega) | omega, rfl, rfl, rfl, rfl, (by repeat (first | with_reducible exact dr_refl | apply dr_keep | apply dr_drop))⟩
                      · intro ρ B hI
                        obtain ⟨t5, hz0, hz1, hE0, hE1, hE5, hE7, hBA⟩ := hI
                        refine q_block_n (q_then_n ?_); refine tc_pre hBA.sat ?_
                        clear hBA
                        refine tc_env (d := 0) hE0 ?_; refine tc_env (d := 1) hE1 ?_; refine tc_env (d := 5) hE5 ?_; refine tc_env (d := 7) hE7 ?_
                        clear hE0 hE1 hE5 hE7
                        refine tc_reg ?_; refine tlm ?_; refine tv (by first | exact o_addI rfl rfl (by omega) | exact o_add rfl rfl) ?_; refine tla ?_; refine nq ?_; exact ⟨_, by omega, i + 1, t5, by omega, cst_le hz0 (by omega), by omega, rfl, rfl, rfl, rfl, rfl, (by repeat (first | with_reducible exact dr_refl | apply dr_keep | apply dr_drop))⟩
      · try simp only [lv1, lv2, lv3, lv4, lv5, lv6, Bool.not_true, Bool.not_false] at h
        refine tc_exit ?_; refine q_then_e (q_then_e (q_block_x (q_then_n ?_))); refine sr ?_; refine tla ?_; refine nq ?_; refine tc_ret ?_; exact ⟨.bool true, C (Dev d t), res1 rfl rfl, fun _ _ h => by rw [hC]; exact (Dr.sat (A' := R * Dev d t) (by repeat (first | with_reducible exact dr_refl | apply dr_keep | apply dr_drop))) _ _ h, t, rfl, cst_le hp1 (by omega), hp2, rfl⟩
end Go.Vl

set_option linter.unusedVariables false
set_option linter.unusedSimpArgs false
namespace Go.Vl
open Go Go.Proofs
attribute [local irreducible] crk crL crc Sl pt ro Dev imgS recS readS recsF rdW rdO rkT Parts rvl recordsS mdI mdK rise mds writeS rollS clearS oldsL kcl xcl lensX lst brL brX fiveX kpR acs chl phi
set_option maxRecDepth 20000 in
set_option maxHeartbeats 2000000 in
theorem still_c {A R : SP} {C : SP → SP} {d : Nat} {s : DevS} (hc : Ct A (Dev d s) R C := by repeat (first | with_reducible exact ct_here | apply ct_left)) {bl : Nat} (hl : Has R bl (cl (lcs11 d 128 384) 52) := by (repeat (first | assumption | with_reducible exact has_here | with_reducible exact has_pt | apply has_left))) {ab : Option Addr} {cb : Nat} {X : List (Int × Int)} {I : List Nat} (hr : Rs R ab (bys mdI) := by repeat (first | assumption | with_reducible exact rs_sl | with_reducible exact rs_pt0 | exact rs_none | apply Rs.left)) (hcb : 1024 ≤ cb := by omega) (hI : LogI 384 X I := by assumption) (hC9 : Clr I s := by assumption) (hO9 : s.off = false := by assumption) :
    Fn Try.prog 38 #[.pointer (some ⟨d, 0, none⟩), .pointer (some ⟨bl, 0, none⟩), .slice ab 1024 cb] (A) (fun v B => v = .bool true ∧ B = R) := by
  refine fn_enterW (args := [.pointer (some ⟨d, 0, none⟩), .pointer (some ⟨bl, 0, none⟩), .slice ab 1024 cb]) Try.func38 rfl Try.ntmps38 (by simp) ?_; refine tc_have (fun _ _ h => ct_wf2 hc h) fun hw => ?_
  have htop := hw.top
  have hpos := hw.pos
  obtain ⟨rfl, hC⟩ := hc
  have hAC : ∀ g w, sat g w (R * Dev d s) → sat g w (C (Dev d s)) := fun g w h => by rw [hC]; exact h
  have hml := mdI_len
  refine sr ?_; refine tla ?_; refine nq ?_; refine tc_seq ?_; refine sr ?_; refine tla ?_; refine nq ?_; refine tc_block ?_; refine tc_loop (fun kk ρ BB => ∃ (i : Nat) (t : DevS), (i ≤ 2) ∧ (Clr I t) ∧ (t.off = false) ∧ kk = 2 - i ∧ ρ 7 = .int .i64 (i : Nat) ∧ ρ 0 = .pointer (some ⟨d, 0, none⟩) ∧ ρ 1 = .pointer (some ⟨bl, 0, none⟩) ∧ ρ 2 = .slice ab 1024 cb ∧ Dr BB (R * Dev d t)) (m := 2 - (0)) ?_ ?_
  · exact ⟨0, s, by omega, hC9, hO9, rfl, rfl, rfl, rfl, rfl, (by repeat (first | with_reducible exact dr_refl | apply dr_keep | apply dr_drop))⟩
  · intro k ρ B hI
    obtain ⟨i, t, hp0, hp1, hp2, hkk1, hE7, hE0, hE1, hE2, hBA⟩ := hI
    refine tc_pre hBA.sat ?_
    clear hBA
    refine tc_env (d := 7) hE7 ?_; refine tc_env (d := 0) hE0 ?_; refine tc_env (d := 1) hE1 ?_; refine tc_env (d := 2) hE2 ?_
    clear hE7 hE0 hE1 hE2
    refine tc_seq ?_; refine sr ?_; refine tlm ?_; refine tv (o_lss rfl rfl) ?_; refine nq ?_; refine tc_cond rfl (fun h => ?_) (fun h => ?_)
    · have hi : i < 2 := by first | omega | (simp at h; omega)
      have htl := hp1.len
      have htw := hp1.wf
      obtain ⟨hrec, hout⟩ := clr_log hI hp1 hp2
      have hil : (imgS t).length = 1024 := by rw [imgS_len htw, htl]
      refine tc_skip ?_; refine q_then_n ?_; refine tc_seq ?_; refine tc_block ?_; refine sr ?_; refine tlm ?_; refine tl_c rfl (o_call bd25 rfl (Records_w (s := t) (hX := hrec) (hlw := by rw [htl]; exact ⟨by decide, by decide, by decide, by decide, by decide⟩))) ?_; rintro _ _ ⟨a17, c17, vs, rfl, hc17, hvs, rfl⟩; refine tlm ?_; refine tv (o_extract rfl rfl) ?_; refine tv (o_extract rfl rfl) ?_; refine tla ?_; refine tla ?_; refine nq ?_; refine sr ?_; refine tlm ?_; refine tl_c rfl (o_call bd23 rfl (image_w (s := t) (imgS t) htl rfl)) ?_; rintro _ _ ⟨a21, c21, rfl, hc21, rfl⟩; refine tla ?_; refine nq ?_; refine tc_seq ?_; refine tc_seq ?_; refine tc_regq mo (by kernel_rfl) ?_; refine ql_v rfl (o_move (by conv => lhs; whnf)) ?_; refine ql_v rfl (o_nei rfl rfl) ?_; refine ql_v rfl (o_move (by conv => lhs; whnf)) ?_; refine ql_bool (d := 24) rfl (fun h => ?_) (fun h => ?_)
      · exfalso; simp at h
      · try simp only [lv1, lv2, lv3, lv4, lv5, lv6, Bool.not_true, Bool.not_false] at h
        refine ql_v rfl (o_move (by conv => lhs; whnf)) ?_; refine ql_v rfl (o_len Try.underlying63 rfl) ?_; refine ql_v rfl (o_nei rfl rfl) ?_; refine ql_v rfl (o_pick_f rfl (by conv => lhs; whnf)) ?_; refine ql_v rfl (o_move (by conv => lhs; whnf)) ?_; refine ql_bool (d := 29) rfl (fun h => ?_) (fun h => ?_)
        · exfalso; simp at h
        · try simp only [lv1, lv2, lv3, lv4, lv5, lv6, Bool.not_true, Bool.not_false] at h
          refine ql_v rfl (o_move (by conv => lhs; whnf)) ?_; refine ql_v rfl (o_len Try.underlying60 rfl) ?_; refine ql_v rfl (o_move (by conv => lhs; whnf)) ?_; refine ql_v rfl (o_len Try.underlying60 rfl) ?_; refine ql_v rfl (o_nei rfl rfl) ?_; refine ql_v rfl (o_pick_f rfl (by conv => lhs; whnf)) ?_; refine ql_v rfl (o_move (by conv => lhs; whnf)) ?_; refine ql_bool (d := 36) rfl (fun h => ?_) (fun h => ?_)
          · exfalso; simp at h
          · try simp only [lv1, lv2, lv3, lv4, lv5, lv6, Bool.not_true, Bool.not_false] at h
            refine ql_v rfl (o_move (by conv => lhs; whnf)) ?_; refine ql_v rfl (o_slice (l := 0) (h := 128) Try.underlying60 sz5 rfl bnd_none (bnd_nat rfl) (by omega) (by omega)) ?_; refine ql_env (d := 38) (v := .slice a21 128 c21) (by show Value.slice (cutAddr _ _ 0 1) (128 - 0) (c21 - 0) = _; rw [show cutAddr a21 c21 0 1 = a21 by unfold cutAddr; cases a21 <;> simp [Addr.add]]; rfl) ?_; refine ql_v rfl (o_move (by conv => lhs; whnf)) ?_; refine ql_v rfl (o_slice (l := 0) (h := 128) Try.underlying60 sz5 rfl bnd_none (bnd_nat rfl) (by omega) (by omega)) ?_; refine ql_env (d := 40) (v := .slice ab 128 cb) (by show Value.slice (cutAddr _ _ 0 1) (128 - 0) (cb - 0) = _; rw [show cutAddr ab cb 0 1 = ab by unfold cutAddr; cases ab <;> simp [Addr.add]]; rfl) ?_; refine ql_c rfl (fun w => exec_call bd34 rfl) (EqBytes_c (xs := (imgS t).take 128) (ys := mdI.take 128) (h1 := eq_take (by repeat (first | assumption | with_reducible exact rs_sl | apply Rs.left))) (h2 := eq_take (by repeat (first | assumption | with_reducible exact rs_sl | apply Rs.left))) (hx := by rw [List.length_take, hil]; rfl) (hy := by rw [List.length_take, hml]; rfl)) ?_; refine ql_env (d := 41) (v := .bool true) (by show Value.bool (decide _) = _; rw [decide_eq_true (out_take hout (Nat.le_refl _))]) ?_; refine ql_v rfl (o_not rfl) ?_; refine ql_v rfl (o_pick_f rfl (by conv => lhs; whnf)) ?_; refine ql_v rfl (o_move (by conv => lhs; whnf)) ?_
            refine ql_bool (d := 44) rfl (fun h => ?_) (fun h => ?_)
            · exfalso; simp at h
            · try simp only [lv1, lv2, lv3, lv4, lv5, lv6, Bool.not_true, Bool.not_false] at h
              refine ql_v rfl (o_move (by conv => lhs; whnf)) ?_; refine ql_v rfl (o_slice (l := 512) (h := 1024) Try.underlying60 sz5 rfl (bnd_nat rfl) bnd_none (by omega) (by omega)) ?_; refine ql_env (d := 46) (v := .slice (cutAddr a21 c21 512 1) 512 (c21 - 512)) (rfl) ?_; refine ql_v rfl (o_move (by conv => lhs; whnf)) ?_; refine ql_v rfl (o_slice (l := 512) (h := 1024) Try.underlying60 sz5 rfl (bnd_nat rfl) bnd_none (by omega) (by omega)) ?_; refine ql_env (d := 48) (v := .slice (cutAddr ab cb 512 1) 512 (cb - 512)) (rfl) ?_; refine ql_c rfl (fun w => exec_call bd34 rfl) (EqBytes_c (xs := ((imgS t).drop 512).take 512) (ys := (mdI.drop 512).take 512) (h1 := rs_mid (l := 512) (m := 512) (by repeat (first | assumption | with_reducible exact rs_sl | apply Rs.left)) (by omega)) (h2 := rs_mid (l := 512) (m := 512) (by repeat (first | assumption | with_reducible exact rs_sl | apply Rs.left)) (by omega)) (hx := by rw [List.length_take, List.length_drop, hil]; rfl) (hy := by rw [List.length_take, List.length_drop, hml]; rfl)) ?_; refine ql_env (d := 49) (v := .bool true) (by show Value.bool (decide _) = _; rw [decide_eq_true (out_sub hout (.inr (by decide)))]) ?_; refine ql_v rfl (o_not rfl) ?_; refine ql_v rfl (o_pick_f rfl (by conv => lhs; whnf)) ?_; refine ql_nil ?_; refine q_then_n ?_; refine tc_cond rfl (fun h => ?_) (fun h => ?_)
              · exfalso; simp at h
              · try simp only [lv1, lv2, lv3, lv4, lv5, lv6, Bool.not_true, Bool.not_false] at h
                refine tc_skip ?_; refine q_then_n ?_; refine tc_seq ?_; refine tc_cut (fun ρ BB => ∃ (t2 : DevS), (Clr I t2) ∧ (t2.off = false) ∧ ρ 63 = .bool false ∧ ρ 0 = .pointer (some ⟨d, 0, none⟩) ∧ ρ 1 = .pointer (some ⟨bl, 0, none⟩) ∧ ρ 2 = .slice ab 1024 cb ∧ ρ 7 = .int .i64 (i : Nat) ∧ Dr BB (R * Dev d t2)) ?_ ?_
                · skip
                  refine tc_reg ?_; refine tlm ?_; refine tv (o_eqi rfl rfl) ?_; refine tlm ?_; refine tl_bool (d := 54) rfl (fun h => ?_) (fun h => ?_)
                  · have g54 : (i = 0) := by first | exact of_decide_eq_true h | (have h2 := h; simp at h2; omega) | simpa using h
                    refine tlm ?_; refine tl_c rfl (o_call bd68 rfl (Crash_c (s := t) (keep := []) (a := none) (c := 0) (m := 0) (hr := rs_nil) (hk := fun k hk => by cases hk) (hm := rfl))) ?_; rintro _ _ ⟨e56, s56, hs56, rfl, rfl⟩
                    obtain ⟨rfl, hof2, hcl2⟩ := clr_cr hp1 hp2 hs56
                    refine tv (o_nei rfl rfl) ?_; refine tlm ?_; refine tl_bool (d := 58) rfl (fun h => ?_) (fun h => ?_)
                    · exfalso; simp at h
                    · try simp only [lv1, lv2, lv3, lv4, lv5, lv6, Bool.not_true, Bool.not_false] at h
                      refine tlm ?_; refine tl_c rfl (o_call bd33 rfl (Wake_c (s := s56))) ?_; rintro _ _ ⟨rfl, rfl⟩; refine tl_env (d := 60) (v := .int .i64 0) (by show Value.int .i64 (if s56.off = true then 0 else 3) = _; rw [if_pos hof2]) ?_; refine tv (o_nei rfl rfl) ?_; refine tv (o_pick_f rfl (by conv => lhs; whnf)) ?_; refine tv (o_pick_t rfl (by conv => lhs; whnf)) ?_; refine tl_nil ?_; exact ⟨_, by first | exact hcl2 | exact hp1, by first | exact hp2 | rfl | exact (by first | rfl | (split <;> simp_all)), rfl, rfl, rfl, rfl, rfl, (by repeat (first | with_reducible exact dr_refl | apply dr_keep | apply dr_drop))⟩
                  · have g54 : ¬ (i = 0) := by first | exact of_decide_eq_false h | (have h2 := h; simp at h2; omega) | simpa using h
                    refine tk ?_; refine tk ?_; refine tk ?_; refine tk ?_; refine tk ?_; refine tk ?_; refine tk ?_; refine tk ?_; refine tv (o_pick_f rfl (by conv => lhs; whnf)) ?_; refine tl_nil ?_; exact ⟨_, by first | exact hcl2 | exact hp1, by first | exact hp2 | rfl | exact (by first | rfl | (split <;> simp_all)), rfl, rfl, rfl, rfl, rfl, (by repeat (first | with_reducible exact dr_refl | apply dr_keep | apply dr_drop))⟩
                · intro ρ B hI
                  obtain ⟨t2, ht20, ht21, hE63, hE0, hE1, hE2, hE7, hBA⟩ := hI
                  refine q_then_n ?_; refine tc_pre hBA.sat ?_
                  clear hBA
                  refine tc_env (d := 63) hE63 ?_; refine tc_env (d := 0) hE0 ?_; refine tc_env (d := 1) hE1 ?_; refine tc_env (d := 2) hE2 ?_; refine tc_env (d := 7) hE7 ?_
                  clear hE63 hE0 hE1 hE2 hE7
                  refine tc_cond rfl (fun h => ?_) (fun h => ?_)
                  · exfalso; simp at h
                  · try simp only [lv1, lv2, lv3, lv4, lv5, lv6, Bool.not_true, Bool.not_false] at h
                    refine tc_skip ?_; refine q_block_n (q_then_n ?_); refine tc_reg ?_; refine tlm ?_; refine tv (by first | exact o_addI rfl rfl (by omega) | exact o_add rfl rfl) ?_; refine tla ?_; refine nq ?_; exact ⟨_, by omega, i + 1, t2, by omega, ht20, ht21, rfl, rfl, rfl, rfl, rfl, (by repeat (first | with_reducible exact dr_refl | apply dr_keep | apply dr_drop))⟩
    · try simp only [lv1, lv2, lv3, lv4, lv5, lv6, Bool.not_true, Bool.not_false] at h
      refine tc_exit ?_; refine q_then_e (q_then_e (q_block_x (q_then_n ?_))); refine sr ?_; refine tla ?_; refine nq ?_; refine tc_ret ?_; exact ⟨.bool true, R, res1 rfl rfl, Dr.sat (by repeat (first | with_reducible exact dr_refl | apply dr_keep | apply dr_drop)), rfl, rfl⟩
end Go.Vl

set_option linter.unusedVariables false
set_option linter.unusedSimpArgs false
namespace Go.Vl
open Go Go.Proofs
def ArOk (ars : List (Int × List Int)) : Prop := ∀ x ∈ ars, (-9223372036854775808 ≤ x.1 ∧ x.1 ≤ 9223372036854775807) ∧ x.2.length ≤ 1099511627776 ∧ ∀ k ∈ x.2, -9223372036854775808 ≤ k ∧ k ≤ 9223372036854775807
theorem brA_b {ars : List (Int × List Int)} (h : ArOk ars) : ∀ x ∈ (ars.take 6).map brA, (1 ≤ x.1 ∧ x.1 ≤ 60) ∧ x.2.length ≤ 1099511627776 ∧ ∀ k ∈ x.2, 0 ≤ k ∧ k < 1000 := fun x hx => by
  obtain ⟨y, hy, rfl⟩ := List.mem_map.1 hx
  have h1 := h y (List.mem_of_mem_take hy)
  refine ⟨by unfold brA; simp only []; omega, by unfold brA; simpa using h1.2.1, fun k hk => ?_⟩
  unfold brA at hk
  simp only [] at hk
  obtain ⟨z, _, rfl⟩ := List.mem_map.1 hk
  omega
theorem brA_len (ars : List (Int × List Int)) : ((ars.take 6).map brA).length ≤ 6 := by rw [List.length_map, List.length_take]; omega
theorem arm_many {X : List (Int × Int)} {s : DevS} {ars : List (Int × List Int)} (hL : Live s) (hw : WfD s) (hc : Cln s) (hlen : s.ls.length = 16) (h : ArOk ars) {r : Nat} (hr : r ≤ 2199023255551) : ∃ sA, armS ((ars.take 6).map brA) s = (0, sA) ∧ CSt X (imgS s) r sA ∧ phi sA ≤ 6 := by
  have hb := brA_b h
  have hl := brA_len ars
  obtain ⟨hO, ha⟩ := hL
  have hbad : ((ars.take 6).map brA).any badA = false := by
    rw [List.any_eq_false]
    intro x hx
    have h1 := hb x hx
    have hlow : lowB x.2 = false := by unfold lowB; rw [List.any_eq_false]; intro k hk; have := h1.2.2 k hk; simp; omega
    unfold badA
    rw [hlow]; simp; omega
  refine ⟨{ s with arms := (ars.take 6).map brA }, ?_, ?_, ?_⟩
  · unfold armS
    rw [if_neg (by rw [hO]; decide), if_neg (by rw [hbad]; decide), if_neg (by rw [ha, List.length_nil]; omega), ha, List.nil_append]
  · have hwA : WfD { s with arms := (ars.take 6).map brA } := ⟨hw.pos, hw.top, hw.line, by show ((ars.take 6).map brA).length ≤ 64; omega, fun a ha => by have := hb a ha; omega, fun a ha => by have h1 := hb a ha; exact ⟨by omega, fun k hk => by have := h1.2.2 k hk; omega⟩⟩
    exact ⟨as_cln hwA hc rfl, hlen, room_cln (s := { s with arms := (ars.take 6).map brA }) hc hr⟩
  · unfold phi
    show ((ars.take 6).map brA).length + (if s.off = true then 1 else 0) ≤ 6
    rw [if_neg (by rw [hO]; decide)]; omega
theorem phi_arms (s : DevS) : s.arms.length ≤ phi s := Nat.le_add_right _ _
theorem xin_br {es : List (Int × Int)} {n : Nat} : ∀ x ∈ brL es n, XIn x := fun _ h => brL_mem h
attribute [local irreducible] crk crL crc Sl pt ro Dev imgS recS readS recsF rdW rdO rkT Parts rvl recordsS mdI mdK rise mds writeS rollS clearS oldsL kcl xcl lensX lst brL brX fiveX kpR acs chl phi
set_option maxRecDepth 20000 in
set_option maxHeartbeats 4000000 in
theorem UlogBrings_f (F : SP) {ae ac aa : Option Addr} {ne ce m cc ma ca : Nat} {v4 : Value} {es : List (Int × Int)} {ch : List Chg} {kvs : List Value} {ars : List (Int × List Int)} (hr : Rs F ae (xcl es)) (hm : es.length = ne) (hX0 : ∀ x ∈ es, XW x) (hne : ne ≤ 8796093022208) (hrc : Rs F ac (chl ch)) (hmc : ch.length = m) (hml : m ≤ 1048576) (hch : ∀ x ∈ ch, ChgV F x) (hra : RdA F aa kvs ars) (hma : ars.length = ma) (hla : ma ≤ 1099511627776) (hka : ArOk ars) :
    Fn Try.prog 8 #[.agg #[.slice ae ne ce, .slice ac m cc, .slice aa ma ca, v4]] (F) (fun r B => r = .bool true ∧ B = F) := by
  refine fn_enterW (args := [.agg #[.slice ae ne ce, .slice ac m cc, .slice aa ma ca, v4]]) Try.func8 rfl Try.ntmps8 (by simp) ?_; refine sr ?_; refine tl_x rfl (o_box rfl rfl) ?_; rintro _ _ ⟨b1, rfl, rfl⟩; refine tla ?_; refine nq ?_; refine tc_seq ?_; refine sr ?_; refine tl_c rfl (o_call bd19 rfl (awake11_c)) ?_; rintro _ _ ⟨rfl, rfl⟩; refine tv (o_not rfl) ?_; refine nq ?_; refine tc_cond rfl (fun h => ?_) (fun h => ?_)
  · exfalso; simp at h
  · try simp only [lv1, lv2, lv3, lv4, lv5, lv6, Bool.not_true, Bool.not_false] at h
    refine tc_skip ?_; refine q_then_n ?_; refine sr ?_; refine tl_c rfl (o_call bd21 rfl (made_c (sz := 384))) ?_; rintro _ _ ⟨d, bl, rfl, rfl⟩; refine tlm ?_; refine tv (o_extract rfl rfl) ?_; refine tv (o_extract rfl rfl) ?_; refine tv (o_extract rfl rfl) ?_; refine tla ?_; refine tla ?_; refine tla ?_; refine nq ?_; refine tc_seq ?_; refine sr ?_; refine tlm ?_; refine tv (o_not rfl) ?_; refine nq ?_; refine tc_cond rfl (fun h => ?_) (fun h => ?_)
    · exfalso; simp at h
    · try simp only [lv1, lv2, lv3, lv4, lv5, lv6, Bool.not_true, Bool.not_false] at h
      refine tc_skip ?_; refine q_then_n ?_; refine sr ?_; refine tv (o_loadN (vs := [.slice ae ne ce, .slice ac m cc, .slice aa ma ca, v4]) a56 sz56 rfl (by repeat (first | with_reducible exact has_here | with_reducible exact has_pt | apply has_left)) (by show 4 ≤ 4; decide) rfl) ?_; refine tl_c rfl (o_call bd22 rfl (brought_c (es := es) (hr := (by repeat (first | assumption | with_reducible exact rs_sl | with_reducible exact rs_pt0 | apply Rs.left))) (hX := hX0))) ?_; rintro _ _ ⟨n23, a23, c23, rfl, hc23, hn23, hm23, rfl⟩
      obtain ⟨X, hXX⟩ : ∃ X, brL es n23 = X := ⟨_, rfl⟩
      have hXm : X.all (mayX 1024 128 384) = true := hXX ▸ brL_may es n23
      have hXn : needN X ≤ 320 := hXX ▸ brL_need hn23
      have hXl : X.length = n23 := hXX ▸ brL_len hm23
      have hXi : ∀ x ∈ X, XIn x := hXX ▸ xin_br
      have hXW : ∀ x ∈ X, XW x := fun x hx => by have := hXi x hx; unfold XIn at this; exact ⟨by omega, by omega⟩
      rw [hXX]
      obtain ⟨s1, w1, w2, w3, w4, w5, w6, w7⟩ := wrote (sz := 384) (l := X) (by decide) (by decide) (by decide) hXm hXn
      have w8 : s1.off = false := w2.1
      obtain ⟨I, hI⟩ : ∃ I, imgS s1 = I := ⟨_, rfl⟩
      have hrec := log_records (sz := 384) (l := X) (by decide) (by decide) (by decide) hXm hXn w3 w8 w5 rfl w6.1 w6.2.1
      obtain ⟨sA, hsA, hcA, hpA⟩ := arm_many (X := X) (r := 385 + 40 * m) w2 w3 w4 w5 hka (by omega)
      rw [hI] at w6 hcA
      have hIm : X = [] → I = mdI := fun h => by rw [← hI, w7 h]; exact mds_img
      refine tla ?_; refine nq ?_; refine sr ?_; refine tlm ?_; refine tl_c rfl (o_call bd23 rfl (image_w (s := mds) mdI mds_len mds_img)) ?_; rintro _ _ ⟨a25, c25, rfl, hc25, rfl⟩; refine tla ?_; refine nq ?_; refine tc_seq ?_; refine tc_seq ?_; refine tc_cut (fun ρ BB => ρ 35 = .bool false ∧ ρ 1 = .pointer (some ⟨b1, 0, none⟩) ∧ ρ 3 = .pointer (some ⟨d, 0, none⟩) ∧ ρ 4 = .pointer (some ⟨bl, 0, none⟩) ∧ ρ 6 = .slice a23 n23 c23 ∧ ρ 7 = .slice a25 1024 c25 ∧ Dr BB (F * pt b1 (cl [.slice ae ne ce, .slice ac m cc, .slice aa ma ca, v4] 56) * Dev d s1 * pt bl (cl (lcs11 d 128 384) 52) * Sl 2 (.slice a23 n23 c23) n23 (xcl X) * Sl 1 (.slice a25 1024 c25) 1024 (bys mdI))) ?_ ?_
      · skip
        refine tc_reg ?_; refine tlm ?_; refine tlm ?_; refine tl_c rfl (o_call bd31 rfl (extents_c (l := X) (hr := (by repeat (first | assumption | with_reducible exact rs_sl | with_reducible exact rs_pt0 | apply Rs.left))))) ?_; rintro _ _ ⟨a28, c28, rfl, hc28, rfl⟩; refine tl_c rfl (o_call bd24 rfl (Write_c (s := mds) (xs := X) (hlw := by rw [mds_len]; exact ⟨by decide, by decide, by decide, by decide, by decide⟩) (hr := rs_ext (m := fiveX 5) (by repeat (first | with_reducible exact rs_sl | apply Rs.left))) (hm := hXl) (hX := hXW) (hroom := room_cln mds_cln (by decide)))) ?_; rintro _ _ ⟨e29, s29, hs29, rfl, rfl⟩
        obtain ⟨rfl, rfl⟩ := pair_eq w1 hs29
        refine tv (o_nei rfl rfl) ?_; refine tlm ?_; refine tl_bool (d := 31) rfl (fun h => ?_) (fun h => ?_)
        · exfalso; simp at h
        · try simp only [lv1, lv2, lv3, lv4, lv5, lv6, Bool.not_true, Bool.not_false] at h
          refine tlm ?_; refine tv (o_len Try.underlying60 rfl) ?_; refine tv (o_nei rfl rfl) ?_; refine tv (o_pick_f rfl (by conv => lhs; whnf)) ?_; refine tl_nil ?_; exact ⟨rfl, rfl, rfl, rfl, rfl, rfl, (by repeat (first | with_reducible exact dr_refl | apply dr_keep | apply dr_drop))⟩
      · intro ρ B hI
        obtain ⟨hE35, hE1, hE3, hE4, hE6, hE7, hBA⟩ := hI
        refine q_then_n ?_; refine tc_pre hBA.sat ?_
        clear hBA
        refine tc_env (d := 35) hE35 ?_; refine tc_env (d := 1) hE1 ?_; refine tc_env (d := 3) hE3 ?_; refine tc_env (d := 4) hE4 ?_; refine tc_env (d := 6) hE6 ?_; refine tc_env (d := 7) hE7 ?_
        clear hE35 hE1 hE3 hE4 hE6 hE7
        refine tc_cond rfl (fun h => ?_) (fun h => ?_)
        · exfalso; simp at h
        · try simp only [lv1, lv2, lv3, lv4, lv5, lv6, Bool.not_true, Bool.not_false] at h
          refine tc_skip ?_; refine q_then_n ?_; refine sr ?_; refine tlm ?_; refine tl_c rfl (o_call bd25 rfl (Records_w (s := s1) (hX := hrec) (hlw := by rw [w5]; exact ⟨by decide, by decide, by decide, by decide, by decide⟩))) ?_; rintro _ _ ⟨a38, c38, vs, rfl, hc38, hvs, rfl⟩
          have hol := olds_len mdI X
          have hol3 : ∀ z ∈ oldsL mdI X, z.2.length ≤ 4294967296 := fun z hz => by obtain ⟨y, hy, rfl⟩ := olds_mem hz; have := hXi y hy; unfold XIn at this; show ((mdI.drop y.1.toNat).take y.2.toNat).length ≤ _; rw [List.length_take]; omega
          refine tl_have (fun _ _ h => parts_getD hvs h.left) fun hps => ?_; refine tlm ?_; refine tv (o_extract rfl rfl) ?_; refine tv (o_extract rfl rfl) ?_; refine tla ?_; refine tla ?_; refine nq ?_; refine tc_seq ?_; refine tc_seq ?_; refine tc_cut (fun ρ BB => ∃ (t0 : DevS), (CSt X I 385 t0) ∧ (phi t0 ≤ 6) ∧ ρ 64 = .bool false ∧ ρ 3 = .pointer (some ⟨d, 0, none⟩) ∧ ρ 4 = .pointer (some ⟨bl, 0, none⟩) ∧ ρ 6 = .slice a23 n23 c23 ∧ ρ 7 = .slice a25 1024 c25 ∧ Dr BB (F * pt b1 (cl [.slice ae ne ce, .slice ac m cc, .slice aa ma ca, v4] 56) * Dev d t0 * pt bl (cl (lcs11 d 128 384) 52) * Sl 2 (.slice a23 n23 c23) n23 (xcl X) * Sl 1 (.slice a25 1024 c25) 1024 (bys mdI))) ?_ ?_
          · skip
            refine tc_reg ?_; refine tlm ?_; refine tv (o_nei rfl rfl) ?_; refine tlm ?_; refine tl_bool (d := 43) rfl (fun h => ?_) (fun h => ?_)
            · exfalso; simp at h
            · try simp only [lv1, lv2, lv3, lv4, lv5, lv6, Bool.not_true, Bool.not_false] at h
              refine tlm ?_; refine tlm ?_; refine tlm ?_; refine tl_c rfl (o_call bd26 rfl (olds_c (I := mdI) (l := X) (a := a25) (b := a23) (hI := (by repeat (first | with_reducible exact rs_sl | apply Rs.left))) (hr := (by repeat (first | with_reducible exact rs_sl | apply Rs.left))) (hIl := mdI_len) (hm := hXl) (hl := fun z hz => by have := hXi z hz; unfold XIn at this; omega))) ?_; rintro _ _ ⟨a47, c47, vs2, rfl, hc47, hvs2, rfl⟩; refine tl_have (fun _ _ h => parts_getD hvs2 h.left) fun hps2 => ?_; refine tl_c rfl (o_call bd27 rfl (sameRecords_c (La := oldsL mdI X) (Lb := oldsL mdI X) (ha := (by repeat (first | with_reducible exact rs_sl | apply Rs.left))) (hb := (by repeat (first | with_reducible exact rs_sl | apply Rs.left))) (hva := hvs) (hvb := hvs2) (hna := rfl) (hnb := by omega) (hpa := by repeat (first | exact psr_of hvs hps hol3 | apply PsR.left)) (hpb := by repeat (first | exact psr_of hvs2 hps2 hol3 | apply PsR.left)))) ?_; rintro _ _ ⟨rfl, rfl⟩; refine tl_env (d := 48) (v := .bool true) (by show Value.bool (decide _) = _; rw [decide_eq_true rfl]) ?_; refine tv (o_not rfl) ?_; refine tv (o_pick_f rfl (by conv => lhs; whnf)) ?_; refine tlm ?_; refine tl_bool (d := 51) rfl (fun h => ?_) (fun h => ?_)
              · exfalso; simp at h
              · try simp only [lv1, lv2, lv3, lv4, lv5, lv6, Bool.not_true, Bool.not_false] at h
                refine tlm ?_; refine tv (o_loadN (vs := [.slice ae ne ce, .slice ac m cc, .slice aa ma ca, v4]) a56 sz56 rfl (by repeat (first | with_reducible exact has_here | with_reducible exact has_pt | apply has_left)) (by show 4 ≤ 4; decide) rfl) ?_; refine tl_c rfl (o_call bd35 rfl (arms11_c (ars := ars) (kvs := kvs) (hr := by repeat (first | exact hra | apply RdA.left)) (hm := hma) (hk := hka))) ?_; rintro _ _ ⟨n54, a54, c54, xs54, rfl, hn54, hxs54, hc54, rfl⟩; refine tl_c rfl (o_call bd30 rfl (Arm_c (s := s1) (ars := (ars.take 6).map brA) (hr := by repeat (first | exact arb_rd hxs54 hn54.symm | apply RdA.left)) (hm := by rw [List.length_map]; exact hn54.symm) (hl := by have := brA_len ars; rw [List.length_map] at this; omega) (hk := fun x hx => by have h9 := brA_b hka x hx; exact ⟨by omega, by omega, fun k hk => by have := h9.2.2 k hk; omega⟩))) ?_; rintro _ _ ⟨e55, s55, hs55, rfl, rfl⟩
                obtain ⟨rfl, rfl⟩ := pair_eq hsA hs55
                refine tv (o_nei rfl rfl) ?_; refine tv (o_pick_f rfl (by conv => lhs; whnf)) ?_; refine tlm ?_; refine tl_bool (d := 58) rfl (fun h => ?_) (fun h => ?_)
                · exfalso; simp at h
                · try simp only [lv1, lv2, lv3, lv4, lv5, lv6, Bool.not_true, Bool.not_false] at h
                  refine tlm ?_; refine tlm ?_; refine tv (o_loadN (vs := [.slice ae ne ce, .slice ac m cc, .slice aa ma ca, v4]) a56 sz56 rfl (by repeat (first | with_reducible exact has_here | with_reducible exact has_pt | apply has_left)) (by show 4 ≤ 4; decide) rfl) ?_; refine tl_c rfl (o_call bd36 rfl (changed_c (s := sA) (X := X) (I := I) (ch := ch) (r := 385) (hr := (by repeat (first | assumption | with_reducible exact rs_sl | with_reducible exact rs_pt0 | apply Rs.left))) (hm := hXl) (hX := hXi) (hrc := (by repeat (first | assumption | with_reducible exact rs_sl | with_reducible exact rs_pt0 | apply Rs.left))) (hmc := hmc) (hch := fun x hx => by repeat (first | exact hch x hx | apply ChgV.left)) (hst := hcA))) ?_; rintro _ _ ⟨s62, rfl, hcs62, hph62, rfl⟩; refine tv (o_not rfl) ?_; refine tv (o_pick_f rfl (by conv => lhs; whnf)) ?_; refine tl_nil ?_; exact ⟨_, hcs62, by omega, rfl, rfl, rfl, rfl, rfl, (by repeat (first | with_reducible exact dr_refl | apply dr_keep | apply dr_drop))⟩
          · intro ρ B hI
            obtain ⟨t0, hj110, hj111, hE64, hE3, hE4, hE6, hE7, hBA⟩ := hI
            refine q_then_n ?_; refine tc_pre hBA.sat ?_
            clear hBA
            refine tc_env (d := 64) hE64 ?_; refine tc_env (d := 3) hE3 ?_; refine tc_env (d := 4) hE4 ?_; refine tc_env (d := 6) hE6 ?_; refine tc_env (d := 7) hE7 ?_
            clear hE64 hE3 hE4 hE6 hE7
            refine tc_cond rfl (fun h => ?_) (fun h => ?_)
            · exfalso; simp at h
            · try simp only [lv1, lv2, lv3, lv4, lv5, lv6, Bool.not_true, Bool.not_false] at h
              refine tc_skip ?_; refine q_then_n ?_; refine tc_seq ?_; refine sr ?_; refine tla ?_; refine nq ?_; refine tc_block ?_; refine tc_loop (fun kk ρ BB => ∃ (i : Nat) (t : DevS), (Trn X I t) ∧ (t.arms.length + i ≤ 6) ∧ kk = 10 - i ∧ ρ 10 = .int .i64 (i : Nat) ∧ ρ 3 = .pointer (some ⟨d, 0, none⟩) ∧ ρ 4 = .pointer (some ⟨bl, 0, none⟩) ∧ ρ 6 = .slice a23 n23 c23 ∧ ρ 7 = .slice a25 1024 c25 ∧ Dr BB (F * pt b1 (cl [.slice ae ne ce, .slice ac m cc, .slice aa ma ca, v4] 56) * Dev d t * pt bl (cl (lcs11 d 128 384) 52) * Sl 2 (.slice a23 n23 c23) n23 (xcl X) * Sl 1 (.slice a25 1024 c25) 1024 (bys mdI))) (m := 10 - (0)) ?_ ?_
              · exact ⟨0, t0, trn_start w6 hIm hj110, by have := phi_arms t0; omega, rfl, rfl, rfl, rfl, rfl, rfl, (by repeat (first | with_reducible exact dr_refl | apply dr_keep | apply dr_drop))⟩
              · intro k ρ B hI
                obtain ⟨i, t, hp0, hp1, hkk1, hE10, hE3, hE4, hE6, hE7, hBA⟩ := hI
                refine tc_pre hBA.sat ?_
                clear hBA
                refine tc_env (d := 10) hE10 ?_; refine tc_env (d := 3) hE3 ?_; refine tc_env (d := 4) hE4 ?_; refine tc_env (d := 6) hE6 ?_; refine tc_env (d := 7) hE7 ?_
                clear hE10 hE3 hE4 hE6 hE7
                refine tc_seq ?_; refine sr ?_; refine tlm ?_; refine tv (o_lss rfl rfl) ?_; refine nq ?_; refine tc_cond rfl (fun h => ?_) (fun h => ?_)
                · try simp only [lv1, lv2, lv3, lv4, lv5, lv6, Bool.not_true, Bool.not_false] at h
                  refine tc_skip ?_; refine q_then_n ?_; refine tc_seq ?_; refine tc_block ?_; refine tc_seq ?_; refine tc_seq ?_; refine tc_cut (fun ρ BB => ∃ (tw : DevS), (Trn X I tw) ∧ (tw.off = false) ∧ (tw.arms.length + i ≤ 6) ∧ ρ 75 = .bool false ∧ ρ 3 = .pointer (some ⟨d, 0, none⟩) ∧ ρ 4 = .pointer (some ⟨bl, 0, none⟩) ∧ ρ 6 = .slice a23 n23 c23 ∧ ρ 7 = .slice a25 1024 c25 ∧ ρ 10 = .int .i64 (i : Nat) ∧ Dr BB (F * pt b1 (cl [.slice ae ne ce, .slice ac m cc, .slice aa ma ca, v4] 56) * Dev d tw * pt bl (cl (lcs11 d 128 384) 52) * Sl 2 (.slice a23 n23 c23) n23 (xcl X) * Sl 1 (.slice a25 1024 c25) 1024 (bys mdI))) ?_ ?_
                  · skip
                    refine tc_reg ?_; refine tlm ?_; refine tl_c rfl (o_call bd32 rfl (Off_c (s := t))) ?_; rintro _ _ ⟨rfl, rfl⟩; refine tlm ?_; refine tl_bool (d := 71) rfl (fun h => ?_) (fun h => ?_)
                    · have hoff : t.off = true := by first | exact h | simpa using h
                      refine tlm ?_; refine tl_c rfl (o_call bd33 rfl (Wake_c (s := t))) ?_; rintro _ _ ⟨rfl, rfl⟩; refine tl_env (d := 73) (v := .int .i64 0) (by show Value.int .i64 (if t.off = true then 0 else 3) = _; rw [if_pos hoff]) ?_; refine tv (o_nei rfl rfl) ?_; refine tv (o_pick_t rfl (by conv => lhs; whnf)) ?_; refine tl_nil ?_; exact ⟨{ t with off := false }, by first | exact hp0 | exact trn_on hp0, by first | exact hoff | rfl, by first | exact hp1 | (show t.arms.length + i ≤ 6; omega), rfl, rfl, rfl, rfl, rfl, rfl, (by repeat (first | with_reducible exact dr_refl | apply dr_keep | apply dr_drop))⟩
                    · have hoff : t.off = false := by first | exact h | simpa using h
                      refine tk ?_; refine tk ?_; refine tk ?_; refine tv (o_pick_f rfl (by conv => lhs; whnf)) ?_; refine tl_nil ?_; exact ⟨t, by first | exact hp0 | exact trn_on hp0, by first | exact hoff | rfl, by first | exact hp1 | (show t.arms.length + i ≤ 6; omega), rfl, rfl, rfl, rfl, rfl, rfl, (by repeat (first | with_reducible exact dr_refl | apply dr_keep | apply dr_drop))⟩
                  · intro ρ B hI
                    obtain ⟨tw, htw0, htw1, htw2, hE75, hE3, hE4, hE6, hE7, hE10, hBA⟩ := hI
                    refine q_then_n ?_; refine tc_pre hBA.sat ?_
                    clear hBA
                    refine tc_env (d := 75) hE75 ?_; refine tc_env (d := 3) hE3 ?_; refine tc_env (d := 4) hE4 ?_; refine tc_env (d := 6) hE6 ?_; refine tc_env (d := 7) hE7 ?_; refine tc_env (d := 10) hE10 ?_
                    clear hE75 hE3 hE4 hE6 hE7 hE10
                    refine tc_cond rfl (fun h => ?_) (fun h => ?_)
                    · exfalso; simp at h
                    · try simp only [lv1, lv2, lv3, lv4, lv5, lv6, Bool.not_true, Bool.not_false] at h
                      refine tc_skip ?_; refine q_then_n ?_; refine sr ?_; refine tlm ?_; refine tl_c rfl (o_call bd37 rfl (Rg.Rollback_c (s := tw) (hroom := htw0.room) (hlw := by rw [trn_len htw0]; exact ⟨by decide, by decide, by decide, by decide, by decide⟩))) ?_; rintro _ _ ⟨e78, k78, s78, hs78, rfl, rfl⟩
                      have hq := trn_roll hXm hXn w6 htw0 htw1 hs78
                      refine tlm ?_; refine tv (o_extract rfl rfl) ?_; refine tv (o_extract rfl rfl) ?_; refine tla ?_; refine tla ?_; refine nq ?_; refine tc_seq ?_; refine sr ?_; refine tlm ?_; refine tv (o_eqi rfl rfl) ?_; refine nq ?_; refine tc_cond rfl (fun h => ?_) (fun h => ?_)
                      · obtain ⟨rfl, hq2, hq3, hq4⟩ : e78 = 5 ∧ s78.off = true ∧ Trn X I s78 ∧ s78.arms.length < tw.arms.length := by rcases hq with h9 | h9; (exfalso; rw [h9.1] at h; simp at h); exact h9
                        refine tc_exit ?_; refine q_then_e (q_block_x (q_then_n ?_)); refine tc_reg ?_; refine tlm ?_; refine tv (by first | exact o_addI rfl rfl (by omega) | exact o_add rfl rfl) ?_; refine tla ?_; refine nq ?_; exact ⟨_, by omega, i + 1, s78, hq3, by omega, rfl, rfl, rfl, rfl, rfl, rfl, (by repeat (first | with_reducible exact dr_refl | apply dr_keep | apply dr_drop))⟩
                      · obtain ⟨rfl, hq2, hq3, hq4⟩ : e78 = 0 ∧ (k78 = 0 ∨ k78 = X.length) ∧ s78.off = false ∧ Clr I s78 := by rcases hq with h9 | h9; exact h9; (exfalso; rw [h9.1] at h; simp at h)
                        refine tc_skip ?_; refine q_then_n ?_; refine tc_seq ?_; refine tc_seq ?_; refine tc_cut (fun ρ BB => ρ 94 = .bool false ∧ ρ 3 = .pointer (some ⟨d, 0, none⟩) ∧ ρ 4 = .pointer (some ⟨bl, 0, none⟩) ∧ ρ 7 = .slice a25 1024 c25 ∧ Dr BB (F * pt b1 (cl [.slice ae ne ce, .slice ac m cc, .slice aa ma ca, v4] 56) * Dev d s78 * pt bl (cl (lcs11 d 128 384) 52) * Sl 2 (.slice a23 n23 c23) n23 (xcl X) * Sl 1 (.slice a25 1024 c25) 1024 (bys mdI))) ?_ ?_
                        · skip
                          refine tc_reg ?_; refine tlm ?_; refine tv (o_nei rfl rfl) ?_; refine tlm ?_; refine tl_bool (d := 85) rfl (fun h => ?_) (fun h => ?_)
                          · exfalso; simp at h
                          · try simp only [lv1, lv2, lv3, lv4, lv5, lv6, Bool.not_true, Bool.not_false] at h
                            refine tlm ?_; refine tv (o_nei rfl rfl) ?_; refine tlm ?_; refine tl_bool (d := 88) rfl (fun h => ?_) (fun h => ?_)
                            · have g88 : (k78 ≠ 0) := by first | exact of_decide_eq_true h | (have h2 := h; simp at h2; omega) | simpa using h
                              refine tlm ?_; refine tlm ?_; refine tv (o_len Try.underlying53 rfl) ?_; refine tv (o_nei rfl rfl) ?_; refine tl_env (d := 92) (v := .bool false) (by show Value.bool (decide _) = _; rw [decide_eq_false (by omega)]) ?_; refine tv (o_pick_t rfl (by conv => lhs; whnf)) ?_; refine tv (o_pick_f rfl (by conv => lhs; whnf)) ?_; refine tl_nil ?_; exact ⟨rfl, rfl, rfl, rfl, (by repeat (first | with_reducible exact dr_refl | apply dr_keep | apply dr_drop))⟩
                            · have g88 : ¬ (k78 ≠ 0) := by first | exact of_decide_eq_false h | (have h2 := h; simp at h2; omega) | simpa using h
                              refine tk ?_; refine tk ?_; refine tk ?_; refine tk ?_; refine tv (o_pick_f rfl (by conv => lhs; whnf)) ?_; refine tv (o_pick_f rfl (by conv => lhs; whnf)) ?_; refine tl_nil ?_; exact ⟨rfl, rfl, rfl, rfl, (by repeat (first | with_reducible exact dr_refl | apply dr_keep | apply dr_drop))⟩
                        · intro ρ B hI
                          obtain ⟨hE94, hE3, hE4, hE7, hBA⟩ := hI
                          refine q_then_n ?_; refine tc_pre hBA.sat ?_
                          clear hBA
                          refine tc_env (d := 94) hE94 ?_; refine tc_env (d := 3) hE3 ?_; refine tc_env (d := 4) hE4 ?_; refine tc_env (d := 7) hE7 ?_
                          clear hE94 hE3 hE4 hE7
                          refine tc_cond rfl (fun h => ?_) (fun h => ?_)
                          · exfalso; simp at h
                          · try simp only [lv1, lv2, lv3, lv4, lv5, lv6, Bool.not_true, Bool.not_false] at h
                            refine tc_skip ?_; refine q_then_n ?_; refine sr ?_; refine tlm ?_; refine tlm ?_; refine tlm ?_; refine tl_c rfl (o_call bd38 rfl (still_c (s := s78) (X := X) (I := I) (hr := (by repeat (first | assumption | with_reducible exact rs_sl | with_reducible exact rs_pt0 | apply Rs.left))) (hI := w6) (hC9 := hq4) (hO9 := hq3))) ?_; rintro _ _ ⟨rfl, rfl⟩; refine tla ?_; refine nq ?_; refine tc_ret ?_; refine q_block_r (q_then_r (q_then_r (q_block_r (q_then_r ?_)))); exact ⟨.bool true, F, res1 rfl rfl, Dr.sat (by repeat (first | with_reducible exact dr_refl | apply dr_keep | apply dr_drop)), rfl, rfl⟩
                · exfalso; first | omega | (have h9 := of_decide_eq_false h; omega) | (simp at h; omega)
end Go.Vl

set_option linter.unusedVariables false
set_option linter.unusedSimpArgs false
namespace Go.Vl
open Go Go.Proofs
set_option maxRecDepth 20000 in
theorem rdu_xt (W : World) : Rdu Try.prog W 74 (fun cs (x : Int × Int) => cs = xcs x ∧ XW x) (fun _ => 1) := fun H enc sp hd fu cs d pl h => by
  obtain ⟨hl, Ds, hD, hs, hf⟩ := rdu_fields Try.underlying74 h
  have hc : Try.prog.cellsOf 74 = 2 := by kernel_rfl
  have hci : Try.prog.cellsOf 3 = 1 := by kernel_rfl
  rw [hc] at hl
  obtain ⟨x, D0, _, ⟨e0, w0⟩, _⟩ := hf 0 _ rfl (rdu_int Try.underlying3)
  obtain ⟨y, D1, _, ⟨e1, w1⟩, _⟩ := hf 1 _ rfl (rdu_int Try.underlying3)
  obtain ⟨c0, c1, rfl⟩ := two_ofG hl
  simp [hci] at e0
  simp [hci] at e1
  subst e0 e1
  exact ⟨(x, y), ⟨rfl, ⟨i64_wf w0, i64_wf w1⟩⟩, by simp only []; omega⟩
def PXtU (A : SP) (cs : List Value) (es : List (Int × Int)) : Prop := ∃ a c, cs = [.slice a es.length c] ∧ es.length ≤ c ∧ Rs A a (xcl es) ∧ ∀ x ∈ es, XW x
theorem rdu_xts (W : World) : Rdu Try.prog W 53 (PXtU (old W)) (fun es => es.length + 1) :=
  (rdu_slice (k := 2) Try.underlying53 (by kernel_rfl) (by decide) (rdu_xt W)).mono fun cs xs ⟨a, cap, Cs, e1, hc, hl, hx, hr⟩ => by
    refine ⟨xs, ⟨a, cap, e1, hc, ?_, fun x hx' => ?_⟩, by simp only [szL, sum_ones]; omega⟩
    · rw [show xcl xs = Cs.flatten from (flatG hl (fun i h h' => (hx i h h').2.1)).symm]; exact hr
    · obtain ⟨i, hi, rfl⟩ := List.mem_iff_getElem.1 hx'
      exact (hx i hi (by omega)).2.2
set_option maxRecDepth 20000 in
theorem rdu_ar (W : World) : Rdu Try.prog W 78 (fun cs (x : Ar1) => cs = x.cells ∧ x.kp.length ≤ x.c ∧ Rs (old W) x.a (ints x.kp) ∧ (-9223372036854775808 ≤ x.af ∧ x.af ≤ 9223372036854775807) ∧ ∀ k ∈ x.kp, -9223372036854775808 ≤ k ∧ k ≤ 9223372036854775807) (fun x => x.kp.length + 1) := fun H enc sp hd fu cs d pl h => by
  obtain ⟨hl, Ds, hD, hs, hf⟩ := rdu_fields Try.underlying78 h
  have hc : Try.prog.cellsOf 78 = 2 := by kernel_rfl
  have hci : Try.prog.cellsOf 3 = 1 := by kernel_rfl
  have hck : Try.prog.cellsOf 22 = 1 := by kernel_rfl
  rw [hc] at hl
  obtain ⟨af, D0, _, ⟨e0, w0⟩, _⟩ := hf 0 _ rfl (rdu_int Try.underlying3)
  obtain ⟨kp, D1, h1, ⟨ka, kc, e1, g1, r1, l1⟩, s1⟩ := hf 1 _ rfl (rdu_ints Try.underlying22 Try.underlying3 (by kernel_rfl))
  obtain ⟨d0, d1, rfl⟩ := two_ofG (show Ds.length = 2 from hD)
  obtain ⟨c0, c1, rfl⟩ := two_ofG hl
  simp only [List.getElem?_cons_succ, List.getElem?_cons_zero, Option.some.injEq] at h1
  subst h1
  simp only [ubs_cons, ubs_nil] at hs
  simp [hci] at e0
  simp [hck] at e1
  subst e0 e1
  exact ⟨⟨af, ka, kc, kp⟩, ⟨rfl, g1, r1, i64_wf w0, l1⟩, by simp only []; omega⟩
def PArU (A : SP) (cs : List Value) (p : List Value × List (Int × List Int)) : Prop := ∃ a c, cs = [.slice a p.2.length c] ∧ p.2.length ≤ c ∧ RdA A a p.1 p.2 ∧ ∀ x ∈ p.2, (-9223372036854775808 ≤ x.1 ∧ x.1 ≤ 9223372036854775807) ∧ ∀ k ∈ x.2, -9223372036854775808 ≤ k ∧ k ≤ 9223372036854775807
theorem rdu_ars (W : World) : Rdu Try.prog W 47 (PArU (old W)) (fun p => (p.2.map fun x => x.2.length + 1).sum + 1) :=
  (rdu_slice (k := 2) Try.underlying47 (by kernel_rfl) (by decide) (rdu_ar W)).mono fun cs xs ⟨a, cap, Cs, e1, hc, hl, hx, hr⟩ => by
    have e2 : Cs.flatten = xs.flatMap Ar1.cells := flatG hl fun i h h' => (hx i h h').2.1
    refine ⟨(xs.map fun x => .slice x.a x.kp.length x.c, xs.map fun x => (x.af, x.kp)), ⟨a, cap, by simpa using e1, by simpa using hc, ⟨?_, by simp, fun i hi => ?_⟩, fun x hx' => ?_⟩, ?_⟩
    · rw [acs_mapG, ← e2]; exact hr
    · have hi' : i < xs.length := by simpa using hi
      have := (hx i hi' (by omega)).2
      exact ⟨xs[i].a, xs[i].c, by simp [hi'], by simpa using this.2.1, by simpa using this.2.2.1⟩
    · obtain ⟨y, hy, rfl⟩ := List.mem_map.1 hx'
      obtain ⟨i, hi, rfl⟩ := List.mem_iff_getElem.1 hy
      have := (hx i hi (by omega)).2
      exact ⟨this.2.2.2.1, this.2.2.2.2⟩
    · simp only [szL, List.map_map]
      exact Nat.le_of_eq rfl
set_option maxRecDepth 20000 in
theorem rdu_ch (W : World) : Rdu Try.prog W 118 (fun cs (x : Chg) => cs = x.cells ∧ ChgV (old W) x) (fun x => x.b.length + 1) := fun H enc sp hd fu cs d pl h => by
  obtain ⟨hl, Ds, hD, hs, hf⟩ := rdu_fields Try.underlying118 h
  have hc : Try.prog.cellsOf 118 = 5 := by kernel_rfl
  have hci : Try.prog.cellsOf 3 = 1 := by kernel_rfl
  have hcb : Try.prog.cellsOf 60 = 1 := by kernel_rfl
  have hcl : Try.prog.cellsOf 4 = 1 := by kernel_rfl
  rw [hc] at hl
  obtain ⟨q, D0, _, ⟨e0, w0⟩, _⟩ := hf 0 _ rfl (rdu_int Try.underlying3)
  obtain ⟨p, D1, _, ⟨e1, w1⟩, _⟩ := hf 1 _ rfl (rdu_int Try.underlying3)
  obtain ⟨b, D2, h2, ⟨a, c, e2, g1, g3, g4⟩, s2⟩ := hf 2 _ rfl (rdu_bys Try.underlying60 Try.underlying5 (by kernel_rfl))
  obtain ⟨fl, D3, _, e3, _⟩ := hf 3 _ rfl (rdu_bool Try.underlying4)
  obtain ⟨fe, D4, _, e4, _⟩ := hf 4 _ rfl (rdu_bool Try.underlying4)
  obtain ⟨d0, d1, d2, d3, d4, rfl⟩ := five_ofG (show Ds.length = 5 from hD)
  obtain ⟨c0, c1, c2, c3, c4, rfl⟩ := five_ofG hl
  simp only [List.getElem?_cons_succ, List.getElem?_cons_zero, Option.some.injEq] at h2
  subst h2
  simp only [ubs_cons, ubs_nil] at hs
  simp [hci] at e0
  simp [hci] at e1
  simp [hcb] at e2
  simp [PBool, hcl] at e3 e4
  subst e0 e1 e2 e3 e4
  exact ⟨⟨q, p, a, c, b, fl, fe⟩, ⟨rfl, i64_wf w0, i64_wf w1, g1, g3, g4⟩, by simp only []; omega⟩
def PChU (A : SP) (cs : List Value) (l : List Chg) : Prop := ∃ a c, cs = [.slice a l.length c] ∧ l.length ≤ c ∧ Rs A a (chl l) ∧ ∀ x ∈ l, ChgV A x
theorem rdu_chs (W : World) : Rdu Try.prog W 54 (PChU (old W)) (fun l => (l.map fun x => x.b.length + 1).sum + 1) :=
  (rdu_slice (k := 5) Try.underlying54 (by kernel_rfl) (by decide) (rdu_ch W)).mono fun cs xs ⟨a, cap, Cs, e1, hc, hl, hx, hr⟩ => by
    refine ⟨xs, ⟨a, cap, e1, hc, ?_, fun x hx' => ?_⟩, Nat.le_of_eq rfl⟩
    · rw [show chl xs = Cs.flatten from (flatG hl (fun i h h' => (hx i h h').2.1)).symm]; exact hr
    · obtain ⟨i, hi, rfl⟩ := List.mem_iff_getElem.1 hx'
      exact (hx i hi (by omega)).2.2
def PStU (A : SP) (cs : List Value) (t : Stx) : Prop := ∃ v1 v2 v3, cs = [v1, v2, v3, .bool t.lg] ∧ PXtU A [v1] t.es ∧ PChU A [v2] t.ch ∧ PArU A [v3] (t.kvs, t.ars)
def Stx.sz (t : Stx) : Nat := t.es.length + (t.ch.map fun x => x.b.length + 1).sum + (t.ars.map fun x => x.2.length + 1).sum
set_option maxRecDepth 20000 in
theorem rdu_sto (W : World) : Rdu Try.prog W 56 (PStU (old W)) Stx.sz := fun H enc sp hd fu cs d pl h => by
  obtain ⟨hl, Ds, hD, hs, hf⟩ := rdu_fields Try.underlying56 h
  have hc : Try.prog.cellsOf 56 = 4 := by kernel_rfl
  have hc0 : Try.prog.cellsOf 53 = 1 := by kernel_rfl
  have hc1 : Try.prog.cellsOf 54 = 1 := by kernel_rfl
  have hc2 : Try.prog.cellsOf 47 = 1 := by kernel_rfl
  have hc3 : Try.prog.cellsOf 4 = 1 := by kernel_rfl
  rw [hc] at hl
  obtain ⟨es, D0, h0, e0, s0⟩ := hf 0 _ rfl (rdu_xts W)
  obtain ⟨ch, D1, h1, e1, s1⟩ := hf 1 _ rfl (rdu_chs W)
  obtain ⟨ar, D2, h2, e2, s2⟩ := hf 2 _ rfl (rdu_ars W)
  obtain ⟨lg, D3, _, e3, _⟩ := hf 3 _ rfl (rdu_bool Try.underlying4)
  obtain ⟨d0, d1, d2, d3, rfl⟩ := four_ofG (show Ds.length = 4 from hD)
  obtain ⟨c0, c1, c2, c3, rfl⟩ := four_ofG hl
  simp only [List.getElem?_cons_succ, List.getElem?_cons_zero, Option.some.injEq] at h0 h1 h2
  subst h0 h1 h2
  simp only [ubs_cons, ubs_nil] at hs
  simp [hc0] at e0
  simp [hc1] at e1
  simp [hc2] at e2
  simp [PBool, hc3] at e3
  subst e3
  exact ⟨⟨es, ch, ar.1, ar.2, lg⟩, ⟨c0, c1, c2, rfl, e0, e1, e2⟩, by unfold Stx.sz; simp only []; omega⟩
theorem len_le_sumS {α : Type} (f : α → Nat) : ∀ (l : List α), l.length ≤ (l.map fun x => f x + 1).sum
  | [] => Nat.le_refl _
  | x :: l => by have := len_le_sumS f l; simp only [List.map_cons, List.sum_cons, List.length_cons]; omega
theorem UlogBrings_L (F : SP) (cs : Array Value) (t : Stx) (h : PStU F cs.toList t) (hz : t.sz ≤ 1048576) : Fn Try.prog 8 #[.agg cs] F (fun r B => r = .bool true ∧ B = F) := by
  obtain ⟨u0, u1, u2, e, ⟨a, c, e0, _, hr, hw⟩, ⟨a1, c1, e1, _, hr1, hw1⟩, ⟨a2, c2, e2, _, hr2, hw2⟩⟩ := h
  simp only [List.cons.injEq, and_true] at e0 e1 e2
  subst e0 e1 e2
  obtain rfl : cs = #[.slice a t.es.length c, .slice a1 t.ch.length c1, .slice a2 t.ars.length c2, .bool t.lg] := Array.ext' e
  have h1 := len_le_sumS (fun x : Chg => x.b.length) t.ch
  have h2 := len_le_sumS (fun x : Int × List Int => x.2.length) t.ars
  unfold Stx.sz at hz
  exact UlogBrings_f F hr rfl hw (by omega) hr1 rfl (by omega) hw1 hr2 rfl (by omega) (fun x hx => ⟨(hw2 x hx).1, by
    have := sum_le (f := fun x : Int × List Int => x.2.length + 1) hx
    simp only [] at this; omega, (hw2 x hx).2⟩)
end Go.Vl
