/- What the row rests on, part 5: a calculus of assertions, walks of functions over it, and plain laws. Conditions: none. -/
import Derived.Deep.QuietTactic
import Derived.BigQuiet
import Derived.WalkKit
import Derived.Test.YtimckjnnjakcoaaProg
import Derived.OrdersHeld
import Derived.Laws.BytesArg
import Derived.RangeFuncRecord
import Derived.TacticsIn
import Derived.Deep.Slices
import Derived.OpenShut
import Derived.ChangeArms
import Derived.SizedLaws
import Derived.ChangeSame
import Derived.Test.YtimckjnnjakcoaaRows
import Derived.Test.YtimckjnnjakcoaaMg4
set_option linter.unusedVariables false
set_option linter.unusedSimpArgs false
namespace Go.Vl
open Go Go.Proofs
theorem img_offL (s : DevS) : imgS { s with off := false } = imgS s := rfl
theorem from_live (n : Nat) (xs : List Nat) : (fromS n xs).off = false ∧ (fromS n xs).arms = [] := ⟨rfl, rfl⟩
theorem from_lslen (n : Nat) (xs : List Nat) : (fromS n xs).ls.length = n := by simp [fromS, newS]
theorem armS_cases {af : Int} {kp : List Int} {s s2 : DevS} {e : Int} (ho : s.off = false) (ha : s.arms = []) (h : armS [(af, kp)] s = (e, s2)) (he : e = 0) : s2.off = false ∧ s2.ls = s.ls := by
  unfold armS at h
  rw [if_neg (by rw [ho]; decide)] at h
  split at h
  · simp only [Prod.mk.injEq] at h; omega
  · split at h
    · simp only [Prod.mk.injEq] at h; omega
    · simp only [Prod.mk.injEq] at h; rw [← h.2]; exact ⟨ho, rfl⟩
attribute [local irreducible] crk crL crc Sl pt ro mbs sbB planT Dev imgS lineT fromS
set_option maxRecDepth 20000 in
set_option maxHeartbeats 4000000 in
theorem SuperLost_n1 (A : SP) {sz tn af : Int} {fl hcp kc : Nat} {ha ka : Option Addr} {hd : List Nat} {kp : List Int} {rt : Bool} (hrh : Rs A ha (bys hd)) (hhb : ∀ x ∈ hd, x < 256) (hfl : fl < 256) (hht : -9223372036854775808 ≤ tn ∧ tn ≤ 9223372036854775807) (hhl : hd.length ≤ 140737488351232) (hrk : Rs A ka (ints kp)) (hkl : kp.length ≤ 17592186043904) (hkb : ∀ k ∈ kp, k ≤ 9223372036854775807) (hs : sz < 0 ∨ 4194368 < sz) :
    Fn Try.prog 16 #[.agg ([.int .i64 sz, .int .u8 (fl : Nat), .slice ha hd.length hcp, .bool rt, .int .i64 tn] : List Value).toArray, .int .i64 af, .slice ka kp.length kc] (A) (fun r B => r = .bool true ∧ B = A) := by
  refine fn_enterW (args := [.agg ([.int .i64 sz, .int .u8 (fl : Nat), .slice ha hd.length hcp, .bool rt, .int .i64 tn] : List Value).toArray, .int .i64 af, .slice ka kp.length kc]) Try.func16 rfl Try.ntmps16 (by simp) ?_
  refine tc_seq ?_
  refine tc_reg ?_
  refine tl_x rfl (o_box rfl rfl) ?_
  rintro _ _ ⟨b3, rfl, rfl⟩
  refine tl_v rfl (o_assign (by conv => lhs; whnf)) ?_
  refine tl_nil ?_
  refine q_then_n ?_
  refine tc_seq ?_
  refine tc_reg ?_
  refine tl_v rfl (o_loadN (vs := [.int .i64 sz, .int .u8 (fl : Nat), .slice ha hd.length hcp, .bool rt, .int .i64 tn]) a121 sz121 rfl (by repeat (first | with_reducible exact has_here | with_reducible exact has_pt | apply has_left)) (by show 5 ≤ 5; decide) rfl) ?_
  refine tl_c rfl (o_call bd64 rfl (ImBytes_no (hrh := (by repeat (first | exact hrh | apply Rs.left))) (hhb := hhb) (hfl := hfl) (hht := hht) (hs := hs))) ?_
  rintro _ _ ⟨rfl, rfl⟩
  refine tl_v rfl (o_assign (by conv => lhs; whnf)) ?_
  refine tl_nil ?_
  refine q_then_n ?_
  refine tc_seq ?_
  refine tc_reg ?_
  refine tl_v rfl (o_move (by conv => lhs; whnf)) ?_
  refine tl_c rfl (o_call bd39 rfl (CopyBytes_c (xs := []) (hr := rs_nil) (hm := rfl))) ?_
  rintro _ _ ⟨a23, c23, rfl, hc23, rfl⟩
  refine tl_c rfl (o_call bd42 rfl (FromNo_c (hno := by decide))) ?_
  rintro _ _ ⟨rfl, rfl⟩
  refine tl_v rfl (o_move (by conv => lhs; whnf)) ?_
  refine tl_v rfl (o_extract rfl rfl) ?_
  refine tl_v rfl (o_extract rfl rfl) ?_
  refine tl_v rfl (o_assign (by conv => lhs; whnf)) ?_
  refine tl_v rfl (o_assign (by conv => lhs; whnf)) ?_
  refine tl_nil ?_
  refine q_then_n ?_
  refine tc_seq ?_
  refine tc_seq ?_
  refine tc_reg ?_
  refine tl_v rfl (o_move (by conv => lhs; whnf)) ?_
  refine tl_v rfl (o_nei rfl rfl) ?_
  refine tl_nil ?_
  refine q_then_n ?_
  refine tc_cond rfl (fun h => ?_) (fun h => ?_)
  · try simp only [decide_eq_true_eq, decide_eq_false_iff_not, Bool.not_eq_true', Bool.not_eq_false', Option.isNone_some, Option.isNone_none, Bool.not_true, Bool.not_false] at h
    refine tc_seq ?_
    refine tc_reg ?_
    refine tl_c rfl (o_call bd24 rfl (works_c)) ?_
    rintro _ _ ⟨rfl, rfl⟩
    refine tl_v rfl (o_assign (by conv => lhs; whnf)) ?_
    refine tl_nil ?_
    refine q_then_n ?_
    refine tc_ret ?_
    refine q_then_r ?_
    exact ⟨.bool true, A, res1 rfl rfl, Dr.sat (by repeat (first | with_reducible exact dr_refl | apply dr_keep | apply dr_drop)), rfl, rfl⟩
  · exfalso; simp at h
set_option maxRecDepth 20000 in
set_option maxHeartbeats 4000000 in
theorem SuperLost_n2 (A : SP) {n : Nat} {tn af : Int} {fl hcp kc : Nat} {ha ka : Option Addr} {hd : List Nat} {kp : List Int} {rt : Bool} (hrh : Rs A ha (bys hd)) (hhb : ∀ x ∈ hd, x < 256) (hfl : fl < 256) (hht : -9223372036854775808 ≤ tn ∧ tn ≤ 9223372036854775807) (hhl : hd.length ≤ 140737488351232) (hrk : Rs A ka (ints kp)) (hkl : kp.length ≤ 17592186043904) (hkb : ∀ k ∈ kp, k ≤ 9223372036854775807) (hn : n ≤ 4194368) (hno : fitsB (n : Nat) = false) :
    Fn Try.prog 16 #[.agg ([.int .i64 (n : Int), .int .u8 (fl : Nat), .slice ha hd.length hcp, .bool rt, .int .i64 tn] : List Value).toArray, .int .i64 af, .slice ka kp.length kc] (A) (fun r B => r = .bool true ∧ B = A) := by
  refine fn_enterW (args := [.agg ([.int .i64 (n : Int), .int .u8 (fl : Nat), .slice ha hd.length hcp, .bool rt, .int .i64 tn] : List Value).toArray, .int .i64 af, .slice ka kp.length kc]) Try.func16 rfl Try.ntmps16 (by simp) ?_
  refine tc_seq ?_
  refine tc_reg ?_
  refine tl_x rfl (o_box rfl rfl) ?_
  rintro _ _ ⟨b3, rfl, rfl⟩
  refine tl_v rfl (o_assign (by conv => lhs; whnf)) ?_
  refine tl_nil ?_
  refine q_then_n ?_
  refine tc_seq ?_
  refine tc_reg ?_
  refine tl_v rfl (o_loadN (vs := [.int .i64 (n : Int), .int .u8 (fl : Nat), .slice ha hd.length hcp, .bool rt, .int .i64 tn]) a121 sz121 rfl (by repeat (first | with_reducible exact has_here | with_reducible exact has_pt | apply has_left)) (by show 5 ≤ 5; decide) rfl) ?_
  refine tl_c rfl (o_call bd64 rfl (ImBytes_ok (hrh := (by repeat (first | exact hrh | apply Rs.left))) (hhb := hhb) (hfl := hfl) (hht := hht) (hn := by omega) (hhl := hhl))) ?_
  rintro _ _ ⟨a20, c20, xs, rfl, hc20, hxl, hxb, rfl⟩
  refine tl_v rfl (o_assign (by conv => lhs; whnf)) ?_
  refine tl_nil ?_
  refine q_then_n ?_
  refine tc_seq ?_
  refine tc_reg ?_
  refine tl_v rfl (o_move (by conv => lhs; whnf)) ?_
  refine tl_c rfl (o_call bd39 rfl (CopyBytes_c (xs := xs))) ?_
  rintro _ _ ⟨u23, c23, rfl, hc23, rfl⟩
  refine tl_c rfl (o_call bd42 rfl (FromNo_c (m := n) (hno := hno))) ?_
  rintro _ _ ⟨rfl, rfl⟩
  refine tl_v rfl (o_move (by conv => lhs; whnf)) ?_
  refine tl_v rfl (o_extract rfl rfl) ?_
  refine tl_v rfl (o_extract rfl rfl) ?_
  refine tl_v rfl (o_assign (by conv => lhs; whnf)) ?_
  refine tl_v rfl (o_assign (by conv => lhs; whnf)) ?_
  refine tl_nil ?_
  refine q_then_n ?_
  refine tc_seq ?_
  refine tc_seq ?_
  refine tc_reg ?_
  refine tl_v rfl (o_move (by conv => lhs; whnf)) ?_
  refine tl_v rfl (o_nei rfl rfl) ?_
  refine tl_nil ?_
  refine q_then_n ?_
  refine tc_cond rfl (fun h => ?_) (fun h => ?_)
  · try simp only [decide_eq_true_eq, decide_eq_false_iff_not, Bool.not_eq_true', Bool.not_eq_false', Option.isNone_some, Option.isNone_none, Bool.not_true, Bool.not_false] at h
    refine tc_seq ?_
    refine tc_reg ?_
    refine tl_c rfl (o_call bd24 rfl (works_c)) ?_
    rintro _ _ ⟨rfl, rfl⟩
    refine tl_v rfl (o_assign (by conv => lhs; whnf)) ?_
    refine tl_nil ?_
    refine q_then_n ?_
    refine tc_ret ?_
    refine q_then_r ?_
    exact ⟨.bool true, A, res1 rfl rfl, Dr.sat (by repeat (first | with_reducible exact dr_refl | apply dr_keep | apply dr_drop)), rfl, rfl⟩
  · exfalso; simp at h
theorem Format_no {A R : SP} {C : SP → SP} {d : Nat} {s : DevS} (hc : Ct A (Dev d s) R C := by repeat (first | with_reducible exact ct_here | apply ct_left)) {n : Nat} (hoff : s.off = false) (hlen : s.ls.length * 64 = n) (hn : ¬ (36992 ≤ (n : Int) ∧ (n : Int) ≤ 4194304 ∧ (n : Int) % 64 = 0)) :
    Fn Try.prog 75 #[.pointer (some ⟨d, 0, none⟩)] (A) (fun r B => r = .tuple #[.agg (ints [0, 0, 0, 0, 0]).toArray, .int .i64 80] ∧ A = B) := by
  refine fn_enterW (args := [.pointer (some ⟨d, 0, none⟩)]) Try.func75 rfl Try.ntmps75 (by simp) ?_
  have hst : stE s = 0 := by unfold stE; rw [hoff]; rfl
  obtain ⟨rfl, hC⟩ := hc
  refine tc_seq ?_
  refine tc_reg ?_
  refine tl_x rfl (o_alloc z23 rfl) ?_
  rintro _ _ ⟨b2, rfl, rfl⟩
  refine tl_v rfl (o_assign (by conv => lhs; whnf)) ?_
  refine tl_nil ?_
  refine q_then_n ?_
  refine tc_seq ?_
  refine tc_seq ?_
  refine tc_reg ?_
  refine tl_v rfl (o_move (by conv => lhs; whnf)) ?_
  refine tl_c rfl (o_call bd102 rfl (state_c (s := s))) ?_
  rintro _ _ ⟨rfl, rfl⟩
  refine tl_env (d := 11) (v := .int .i64 0) (congrArg (Value.int .i64) hst) ?_
  refine tl_v rfl (o_assign (by conv => lhs; whnf)) ?_
  refine tl_nil ?_
  refine q_then_n ?_
  refine tc_seq ?_
  refine tc_reg ?_
  refine tl_v rfl (o_move (by conv => lhs; whnf)) ?_
  refine tl_v rfl (o_nei rfl rfl) ?_
  refine tl_nil ?_
  refine q_then_n ?_
  refine tc_cond rfl (fun h => ?_) (fun h => ?_)
  · exfalso; simp at h
  · try simp only [decide_eq_true_eq, decide_eq_false_iff_not, Bool.not_eq_true', Bool.not_eq_false', Option.isNone_some, Option.isNone_none, Bool.not_true, Bool.not_false] at h
    refine tc_skip ?_
    refine q_then_n ?_
    refine tc_seq ?_
    refine tc_reg ?_
    refine tl_v rfl (o_move (by conv => lhs; whnf)) ?_
    refine tl_c rfl (o_call bd94 rfl (Size_c (s := s))) ?_
    rintro _ _ ⟨rfl, rfl⟩
    refine tl_env (d := 18) (v := .int .i64 (n : Int)) (congrArg (Value.int .i64) (by omega)) ?_
    refine tl_c rfl (o_call bd18 rfl (Plan_q (planT_f hn))) ?_
    rintro _ _ ⟨rfl, rfl⟩
    refine tl_v rfl (o_move (by conv => lhs; whnf)) ?_
    refine tl_v rfl (o_extract rfl rfl) ?_
    refine tl_v rfl (o_extract rfl rfl) ?_
    refine tl_x rfl (o_alloc z23 rfl) ?_
    rintro _ _ ⟨b5, rfl, rfl⟩
    refine tl_u rfl (o_stUN (l' := ints [0, 0, 0, 0, 0]) rfl (by repeat (first | with_reducible exact upd_here | with_reducible exact upd_pt | apply upd_left)) sz23 rfl rfl rfl (by show 5 ≤ 5; decide) rfl) ?_
    refine tl_v rfl (o_assign (by conv => lhs; whnf)) ?_
    refine tl_nil ?_
    refine q_then_n ?_
    refine tc_seq ?_
    refine tc_seq ?_
    refine tc_reg ?_
    refine tl_v rfl (o_move (by conv => lhs; whnf)) ?_
    refine tl_v rfl (o_nei rfl rfl) ?_
    refine tl_nil ?_
    refine q_then_n ?_
    refine tc_cond rfl (fun h => ?_) (fun h => ?_)
    · try simp only [decide_eq_true_eq, decide_eq_false_iff_not, Bool.not_eq_true', Bool.not_eq_false', Option.isNone_some, Option.isNone_none, Bool.not_true, Bool.not_false] at h
      refine tc_seq ?_
      refine tc_reg ?_
      refine tl_v rfl (o_bS (l := ints [0, 0, 0, 0, 0]) pv_nil Try.underlying23 z23 (pl23 Try.underlying23) rfl) ?_
      refine tl_v rfl (o_move (by conv => lhs; whnf)) ?_
      refine tl_u rfl (o_stUN (l' := ints [0, 0, 0, 0, 0]) rfl (by repeat (first | with_reducible exact upd_here | with_reducible exact upd_pt | apply upd_left)) sz23 rfl rfl rfl (by show 5 ≤ 5; decide) rfl) ?_
      refine tl_v rfl (o_assign (by conv => lhs; whnf)) ?_
      refine tl_nil ?_
      refine q_then_n ?_
      refine tc_ret ?_
      refine q_then_r ?_
      exact ⟨.tuple #[.agg (ints [0, 0, 0, 0, 0]).toArray, .int .i64 80], R * Dev d s, resA2 rfl (rv_cell a23 sz23 rfl (by repeat (first | with_reducible exact has_here | with_reducible exact has_pt | apply has_left)) (by show 5 ≤ 5; decide) rfl) (rv_tmp rfl), Dr.sat (by repeat (first | with_reducible exact dr_refl | apply dr_keep | apply dr_drop)), rfl, rfl⟩
    · exfalso; simp at h
set_option maxRecDepth 20000 in
set_option maxHeartbeats 4000000 in
theorem SuperLost_s (A : SP) {n : Nat} {tn af : Int} {fl hcp kc : Nat} {ha ka : Option Addr} {hd : List Nat} {kp : List Int} {rt : Bool} (hrh : Rs A ha (bys hd)) (hhb : ∀ x ∈ hd, x < 256) (hfl : fl < 256) (hht : -9223372036854775808 ≤ tn ∧ tn ≤ 9223372036854775807) (hhl : hd.length ≤ 140737488351232) (hrk : Rs A ka (ints kp)) (hkl : kp.length ≤ 17592186043904) (hkb : ∀ k ∈ kp, k ≤ 9223372036854775807) {k : Nat} (hk : n = k * 64) (hk0 : 0 < k) (hn : n < 36992) (hkc : kp.length ≤ kc) :
    Fn Try.prog 16 #[.agg ([.int .i64 (n : Int), .int .u8 (fl : Nat), .slice ha hd.length hcp, .bool rt, .int .i64 tn] : List Value).toArray, .int .i64 af, .slice ka kp.length kc] (A) (fun r B => r = .bool true ∧ B = A) := by
  refine fn_enterW (args := [.agg ([.int .i64 (n : Int), .int .u8 (fl : Nat), .slice ha hd.length hcp, .bool rt, .int .i64 tn] : List Value).toArray, .int .i64 af, .slice ka kp.length kc]) Try.func16 rfl Try.ntmps16 (by simp) ?_
  refine tc_seq ?_
  refine tc_reg ?_
  refine tl_x rfl (o_box rfl rfl) ?_
  rintro _ _ ⟨b3, rfl, rfl⟩
  refine tl_v rfl (o_assign (by conv => lhs; whnf)) ?_
  refine tl_nil ?_
  refine q_then_n ?_
  refine tc_seq ?_
  refine tc_reg ?_
  refine tl_v rfl (o_loadN (vs := [.int .i64 (n : Int), .int .u8 (fl : Nat), .slice ha hd.length hcp, .bool rt, .int .i64 tn]) a121 sz121 rfl (by repeat (first | with_reducible exact has_here | with_reducible exact has_pt | apply has_left)) (by show 5 ≤ 5; decide) rfl) ?_
  refine tl_c rfl (o_call bd64 rfl (ImBytes_ok (hrh := (by repeat (first | exact hrh | apply Rs.left))) (hhb := hhb) (hfl := hfl) (hht := hht) (hn := by omega) (hhl := hhl))) ?_
  rintro _ _ ⟨a20, c20, xs, rfl, hc20, hxl, hxb, rfl⟩
  refine tl_v rfl (o_assign (by conv => lhs; whnf)) ?_
  refine tl_nil ?_
  refine q_then_n ?_
  refine tc_seq ?_
  refine tc_reg ?_
  refine tl_v rfl (o_move (by conv => lhs; whnf)) ?_
  refine tl_c rfl (o_call bd39 rfl (CopyBytes_c (xs := xs))) ?_
  rintro _ _ ⟨u23, c23, rfl, hc23, rfl⟩
  refine tl_c rfl (o_call bd42 rfl (From_c (n := k) (xs := xs))) ?_
  rintro _ _ ⟨d24, rfl, rfl⟩
  refine tl_v rfl (o_move (by conv => lhs; whnf)) ?_
  refine tl_v rfl (o_extract rfl rfl) ?_
  refine tl_v rfl (o_extract rfl rfl) ?_
  refine tl_v rfl (o_assign (by conv => lhs; whnf)) ?_
  refine tl_v rfl (o_assign (by conv => lhs; whnf)) ?_
  refine tl_nil ?_
  refine q_then_n ?_
  refine tc_seq ?_
  refine tc_seq ?_
  refine tc_reg ?_
  refine tl_v rfl (o_move (by conv => lhs; whnf)) ?_
  refine tl_v rfl (o_nei rfl rfl) ?_
  refine tl_nil ?_
  refine q_then_n ?_
  refine tc_cond rfl (fun h => ?_) (fun h => ?_)
  · exfalso; simp at h
  · try simp only [decide_eq_true_eq, decide_eq_false_iff_not, Bool.not_eq_true', Bool.not_eq_false', Option.isNone_some, Option.isNone_none, Bool.not_true, Bool.not_false] at h
    refine tc_skip ?_
    refine q_then_n ?_
    refine tc_seq ?_
    refine tc_seq ?_
    refine tc_reg ?_
    refine tl_v rfl (o_move (by conv => lhs; whnf)) ?_
    refine tl_v rfl (o_gtr rfl rfl) ?_
    refine tl_v rfl (o_move (by conv => lhs; whnf)) ?_
    refine tl_bool (d := 32) rfl (fun h => ?_) (fun h => ?_)
    · have haf1 : 0 < af := by simpa using h
      refine tl_v rfl (o_move (by conv => lhs; whnf)) ?_
      refine tl_v rfl (o_lss rfl rfl) ?_
      refine tl_v rfl (o_pick_t rfl (by conv => lhs; whnf)) ?_
      refine tl_v rfl (o_move (by conv => lhs; whnf)) ?_
      refine tl_bool (d := 36) rfl (fun h => ?_) (fun h => ?_)
      · have haf2 : 0 < af ∧ af < 60 := by first | omega | (simp at h; omega)
        refine tl_v rfl (o_move (by conv => lhs; whnf)) ?_
        refine tl_v rfl (o_move (by conv => lhs; whnf)) ?_
        refine tl_v rfl (o_move (by conv => lhs; whnf)) ?_
        refine tl_v rfl (o_bS (l := [.int .i64 af, .slice ka kp.length kc]) (pv_cons (by conv => lhs; whnf) (pv_cons (by conv => lhs; whnf) pv_nil)) Try.underlying72 z72 (pl72 Try.underlying72) rfl) ?_
        refine tl_x rfl (o_buildSliceK (k := 2) (l := [.int .i64 af, .slice ka kp.length kc]) Try.underlying74 sz72 z72 rfl rfl (by decide)) ?_
        rintro _ _ ⟨b41, rfl, rfl⟩
        refine tl_c rfl (o_call bd44 rfl (Arm_c (s := fromS k xs) (kvs := [.slice ka kp.length kc]) (ars := [(af, kp)]) (hm := rfl) (hr := ⟨by repeat (first | assumption | exact rs_sl | exact rs_pt0 | exact rs_none | apply Rs.left), rfl, fun i h => by have h0 : i = 0 := (by simpa using h); subst h0; exact ⟨_, _, rfl, (by show kp.length ≤ _; exact hkc), (by repeat (first | exact hrk | apply Rs.left))⟩⟩) (hk := fun x hx => by simp only [List.mem_singleton] at hx; subst hx; exact ⟨by constructor <;> (show _ ≤ _) <;> omega, by show kp.length ≤ _; omega, hkb⟩))) ?_
        rintro _ _ ⟨e42, s42, hs42, rfl, rfl⟩
        refine tl_v rfl (o_nei rfl rfl) ?_
        refine tl_v rfl (o_pick_t rfl (by conv => lhs; whnf)) ?_
        refine tl_nil ?_
        refine q_then_n ?_
        refine tc_cond rfl (fun h => ?_) (fun h => ?_)
        · try simp only [decide_eq_true_eq, decide_eq_false_iff_not, Bool.not_eq_true', Bool.not_eq_false', Option.isNone_some, Option.isNone_none, Bool.not_true, Bool.not_false] at h
          refine tc_seq ?_
          refine tc_reg ?_
          refine tl_c rfl (o_call bd24 rfl (works_c)) ?_
          rintro _ _ ⟨rfl, rfl⟩
          refine tl_v rfl (o_assign (by conv => lhs; whnf)) ?_
          refine tl_nil ?_
          refine q_then_n ?_
          refine tc_ret ?_
          refine q_then_r ?_
          exact ⟨.bool true, A, res1 rfl rfl, Dr.sat (by repeat (first | with_reducible exact dr_refl | apply dr_keep | apply dr_drop)), rfl, rfl⟩
        · try simp only [decide_eq_true_eq, decide_eq_false_iff_not, Bool.not_eq_true', Bool.not_eq_false', Option.isNone_some, Option.isNone_none, Bool.not_true, Bool.not_false] at h
          refine tc_skip ?_
          refine q_then_n ?_
          refine tc_seq ?_
          have hs42 : s42.off = false ∧ s42.ls = (fromS k xs).ls := by first | exact ha0 | exact armS_cases (from_live k xs).1 (from_live k xs).2 hs42 (by simpa using h)
          have hl42 : s42.ls.length = k := by rw [hs42.2]; exact from_lslen k xs
          refine tc_reg ?_
          refine tl_v rfl (o_move (by conv => lhs; whnf)) ?_
          refine tl_c rfl (o_call bd75 rfl (Format_no (s := s42) (n := n) (hoff := hs42.1) (hlen := by omega) (hn := by omega))) ?_
          rintro _ _ ⟨rfl, rfl⟩
          refine tl_v rfl (o_move (by conv => lhs; whnf)) ?_
          refine tl_v rfl (o_extract rfl rfl) ?_
          refine tl_v rfl (o_extract rfl rfl) ?_
          refine tl_x rfl (o_alloc z23 rfl) ?_
          rintro _ _ ⟨b10, rfl, rfl⟩
          refine tl_u rfl (o_stUN (l' := ints [0, 0, 0, 0, 0]) rfl (by repeat (first | with_reducible exact upd_here | with_reducible exact upd_pt | apply upd_left)) sz23 rfl rfl rfl (by show 5 ≤ 5; decide) rfl) ?_
          refine tl_v rfl (o_assign (by conv => lhs; whnf)) ?_
          refine tl_nil ?_
          refine q_then_n ?_
          refine tc_seq ?_
          refine tc_reg ?_
          refine tl_v rfl (o_move (by conv => lhs; whnf)) ?_
          refine tl_v rfl (o_len Try.underlying28 rfl) ?_
          refine tl_c rfl (o_call bd18 rfl (Plan_q (n := (n : Int)) (planT_f (by omega)))) ?_
          rintro _ _ ⟨rfl, rfl⟩
          refine tl_v rfl (o_move (by conv => lhs; whnf)) ?_
          refine tl_v rfl (o_extract rfl rfl) ?_
          refine tl_v rfl (o_extract rfl rfl) ?_
          refine tl_x rfl (o_alloc z23 rfl) ?_
          rintro _ _ ⟨b11, rfl, rfl⟩
          refine tl_u rfl (o_stUN (l' := ints [0, 0, 0, 0, 0]) rfl (by repeat (first | with_reducible exact upd_here | with_reducible exact upd_pt | apply upd_left)) sz23 rfl rfl rfl (by show 5 ≤ 5; decide) rfl) ?_
          refine tl_v rfl (o_assign (by conv => lhs; whnf)) ?_
          refine tl_nil ?_
          refine q_then_n ?_
          refine tc_seq ?_
          refine tc_seq ?_
          refine tc_reg ?_
          refine tl_v rfl (o_move (by conv => lhs; whnf)) ?_
          refine tl_v rfl (o_nei rfl rfl) ?_
          refine tl_nil ?_
          refine q_then_n ?_
          refine tc_cond rfl (fun h => ?_) (fun h => ?_)
          · try simp only [decide_eq_true_eq, decide_eq_false_iff_not, Bool.not_eq_true', Bool.not_eq_false', Option.isNone_some, Option.isNone_none, Bool.not_true, Bool.not_false] at h
            refine tc_seq ?_
            refine tc_reg ?_
            refine tl_v rfl (o_move (by conv => lhs; whnf)) ?_
            refine tl_v rfl (o_move (by conv => lhs; whnf)) ?_
            refine tl_v rfl (o_eqi rfl rfl) ?_
            refine tl_v rfl (o_move (by conv => lhs; whnf)) ?_
            refine tl_bool (d := 62) rfl (fun h => ?_) (fun h => ?_)
            · try simp only [decide_eq_true_eq, decide_eq_false_iff_not, Bool.not_eq_true', Bool.not_eq_false', Option.isNone_some, Option.isNone_none, Bool.not_true, Bool.not_false] at h
              refine tl_c rfl (o_call bd24 rfl (works_c)) ?_
              rintro _ _ ⟨rfl, rfl⟩
              refine tl_v rfl (o_pick_t rfl (by conv => lhs; whnf)) ?_
              refine tl_v rfl (o_assign (by conv => lhs; whnf)) ?_
              refine tl_nil ?_
              refine q_then_n ?_
              refine tc_ret ?_
              refine q_then_r ?_
              exact ⟨.bool true, A, res1 rfl rfl, Dr.sat (by repeat (first | with_reducible exact dr_refl | apply dr_keep | apply dr_drop)), rfl, rfl⟩
            · (exfalso; first | (revert h; simp; done) | (simp at h; done) | (revert h; simp; omega) | (simp at h; omega) | omega)
          · exfalso; simp at h
      · obtain ⟨s42, hs42q⟩ : ∃ s, s = fromS k xs := ⟨_, rfl⟩
        rw [← hs42q]
        have ha0 : s42.off = false ∧ s42.ls = (fromS k xs).ls := by rw [hs42q]; exact ⟨(from_live k xs).1, rfl⟩
        refine tl_skip rfl ?_
        refine tl_skip rfl ?_
        refine tl_skip rfl ?_
        refine tl_skip rfl ?_
        refine tl_skip rfl ?_
        refine tl_skip rfl ?_
        refine tl_skip rfl ?_
        refine tl_v rfl (o_pick_f rfl (by conv => lhs; whnf)) ?_
        refine tl_nil ?_
        refine q_then_n ?_
        refine tc_cond_f rfl ?_
        refine tc_skip ?_
        refine q_then_n ?_
        refine tc_seq ?_
        have hs42 : s42.off = false ∧ s42.ls = (fromS k xs).ls := by first | exact ha0 | exact armS_cases (from_live k xs).1 (from_live k xs).2 hs42 (by simpa using h)
        have hl42 : s42.ls.length = k := by rw [hs42.2]; exact from_lslen k xs
        refine tc_reg ?_
        refine tl_v rfl (o_move (by conv => lhs; whnf)) ?_
        refine tl_c rfl (o_call bd75 rfl (Format_no (s := s42) (n := n) (hoff := hs42.1) (hlen := by omega) (hn := by omega))) ?_
        rintro _ _ ⟨rfl, rfl⟩
        refine tl_v rfl (o_move (by conv => lhs; whnf)) ?_
        refine tl_v rfl (o_extract rfl rfl) ?_
        refine tl_v rfl (o_extract rfl rfl) ?_
        refine tl_x rfl (o_alloc z23 rfl) ?_
        rintro _ _ ⟨b10, rfl, rfl⟩
        refine tl_u rfl (o_stUN (l' := ints [0, 0, 0, 0, 0]) rfl (by repeat (first | with_reducible exact upd_here | with_reducible exact upd_pt | apply upd_left)) sz23 rfl rfl rfl (by show 5 ≤ 5; decide) rfl) ?_
        refine tl_v rfl (o_assign (by conv => lhs; whnf)) ?_
        refine tl_nil ?_
        refine q_then_n ?_
        refine tc_seq ?_
        refine tc_reg ?_
        refine tl_v rfl (o_move (by conv => lhs; whnf)) ?_
        refine tl_v rfl (o_len Try.underlying28 rfl) ?_
        refine tl_c rfl (o_call bd18 rfl (Plan_q (n := (n : Int)) (planT_f (by omega)))) ?_
        rintro _ _ ⟨rfl, rfl⟩
        refine tl_v rfl (o_move (by conv => lhs; whnf)) ?_
        refine tl_v rfl (o_extract rfl rfl) ?_
        refine tl_v rfl (o_extract rfl rfl) ?_
        refine tl_x rfl (o_alloc z23 rfl) ?_
        rintro _ _ ⟨b11, rfl, rfl⟩
        refine tl_u rfl (o_stUN (l' := ints [0, 0, 0, 0, 0]) rfl (by repeat (first | with_reducible exact upd_here | with_reducible exact upd_pt | apply upd_left)) sz23 rfl rfl rfl (by show 5 ≤ 5; decide) rfl) ?_
        refine tl_v rfl (o_assign (by conv => lhs; whnf)) ?_
        refine tl_nil ?_
        refine q_then_n ?_
        refine tc_seq ?_
        refine tc_seq ?_
        refine tc_reg ?_
        refine tl_v rfl (o_move (by conv => lhs; whnf)) ?_
        refine tl_v rfl (o_nei rfl rfl) ?_
        refine tl_nil ?_
        refine q_then_n ?_
        refine tc_cond rfl (fun h => ?_) (fun h => ?_)
        · try simp only [decide_eq_true_eq, decide_eq_false_iff_not, Bool.not_eq_true', Bool.not_eq_false', Option.isNone_some, Option.isNone_none, Bool.not_true, Bool.not_false] at h
          refine tc_seq ?_
          refine tc_reg ?_
          refine tl_v rfl (o_move (by conv => lhs; whnf)) ?_
          refine tl_v rfl (o_move (by conv => lhs; whnf)) ?_
          refine tl_v rfl (o_eqi rfl rfl) ?_
          refine tl_v rfl (o_move (by conv => lhs; whnf)) ?_
          refine tl_bool (d := 62) rfl (fun h => ?_) (fun h => ?_)
          · try simp only [decide_eq_true_eq, decide_eq_false_iff_not, Bool.not_eq_true', Bool.not_eq_false', Option.isNone_some, Option.isNone_none, Bool.not_true, Bool.not_false] at h
            refine tl_c rfl (o_call bd24 rfl (works_c)) ?_
            rintro _ _ ⟨rfl, rfl⟩
            refine tl_v rfl (o_pick_t rfl (by conv => lhs; whnf)) ?_
            refine tl_v rfl (o_assign (by conv => lhs; whnf)) ?_
            refine tl_nil ?_
            refine q_then_n ?_
            refine tc_ret ?_
            refine q_then_r ?_
            exact ⟨.bool true, A, res1 rfl rfl, Dr.sat (by repeat (first | with_reducible exact dr_refl | apply dr_keep | apply dr_drop)), rfl, rfl⟩
          · (exfalso; first | (revert h; simp; done) | (simp at h; done) | (revert h; simp; omega) | (simp at h; omega) | omega)
        · exfalso; simp at h
    · obtain ⟨s42, hs42q⟩ : ∃ s, s = fromS k xs := ⟨_, rfl⟩
      rw [← hs42q]
      have ha0 : s42.off = false ∧ s42.ls = (fromS k xs).ls := by rw [hs42q]; exact ⟨(from_live k xs).1, rfl⟩
      refine tl_skip rfl ?_
      refine tl_skip rfl ?_
      refine tl_v rfl (o_pick_f rfl (by conv => lhs; whnf)) ?_
      refine tl_v rfl (o_move (by conv => lhs; whnf)) ?_
      refine tl_skip rfl ?_
      refine tl_skip rfl ?_
      refine tl_skip rfl ?_
      refine tl_skip rfl ?_
      refine tl_skip rfl ?_
      refine tl_skip rfl ?_
      refine tl_skip rfl ?_
      refine tl_v rfl (o_pick_f rfl (by conv => lhs; whnf)) ?_
      refine tl_nil ?_
      refine q_then_n ?_
      refine tc_cond_f rfl ?_
      refine tc_skip ?_
      refine q_then_n ?_
      refine tc_seq ?_
      have hs42 : s42.off = false ∧ s42.ls = (fromS k xs).ls := by first | exact ha0 | exact armS_cases (from_live k xs).1 (from_live k xs).2 hs42 (by simpa using h)
      have hl42 : s42.ls.length = k := by rw [hs42.2]; exact from_lslen k xs
      refine tc_reg ?_
      refine tl_v rfl (o_move (by conv => lhs; whnf)) ?_
      refine tl_c rfl (o_call bd75 rfl (Format_no (s := s42) (n := n) (hoff := hs42.1) (hlen := by omega) (hn := by omega))) ?_
      rintro _ _ ⟨rfl, rfl⟩
      refine tl_v rfl (o_move (by conv => lhs; whnf)) ?_
      refine tl_v rfl (o_extract rfl rfl) ?_
      refine tl_v rfl (o_extract rfl rfl) ?_
      refine tl_x rfl (o_alloc z23 rfl) ?_
      rintro _ _ ⟨b10, rfl, rfl⟩
      refine tl_u rfl (o_stUN (l' := ints [0, 0, 0, 0, 0]) rfl (by repeat (first | with_reducible exact upd_here | with_reducible exact upd_pt | apply upd_left)) sz23 rfl rfl rfl (by show 5 ≤ 5; decide) rfl) ?_
      refine tl_v rfl (o_assign (by conv => lhs; whnf)) ?_
      refine tl_nil ?_
      refine q_then_n ?_
      refine tc_seq ?_
      refine tc_reg ?_
      refine tl_v rfl (o_move (by conv => lhs; whnf)) ?_
      refine tl_v rfl (o_len Try.underlying28 rfl) ?_
      refine tl_c rfl (o_call bd18 rfl (Plan_q (n := (n : Int)) (planT_f (by omega)))) ?_
      rintro _ _ ⟨rfl, rfl⟩
      refine tl_v rfl (o_move (by conv => lhs; whnf)) ?_
      refine tl_v rfl (o_extract rfl rfl) ?_
      refine tl_v rfl (o_extract rfl rfl) ?_
      refine tl_x rfl (o_alloc z23 rfl) ?_
      rintro _ _ ⟨b11, rfl, rfl⟩
      refine tl_u rfl (o_stUN (l' := ints [0, 0, 0, 0, 0]) rfl (by repeat (first | with_reducible exact upd_here | with_reducible exact upd_pt | apply upd_left)) sz23 rfl rfl rfl (by show 5 ≤ 5; decide) rfl) ?_
      refine tl_v rfl (o_assign (by conv => lhs; whnf)) ?_
      refine tl_nil ?_
      refine q_then_n ?_
      refine tc_seq ?_
      refine tc_seq ?_
      refine tc_reg ?_
      refine tl_v rfl (o_move (by conv => lhs; whnf)) ?_
      refine tl_v rfl (o_nei rfl rfl) ?_
      refine tl_nil ?_
      refine q_then_n ?_
      refine tc_cond rfl (fun h => ?_) (fun h => ?_)
      · try simp only [decide_eq_true_eq, decide_eq_false_iff_not, Bool.not_eq_true', Bool.not_eq_false', Option.isNone_some, Option.isNone_none, Bool.not_true, Bool.not_false] at h
        refine tc_seq ?_
        refine tc_reg ?_
        refine tl_v rfl (o_move (by conv => lhs; whnf)) ?_
        refine tl_v rfl (o_move (by conv => lhs; whnf)) ?_
        refine tl_v rfl (o_eqi rfl rfl) ?_
        refine tl_v rfl (o_move (by conv => lhs; whnf)) ?_
        refine tl_bool (d := 62) rfl (fun h => ?_) (fun h => ?_)
        · try simp only [decide_eq_true_eq, decide_eq_false_iff_not, Bool.not_eq_true', Bool.not_eq_false', Option.isNone_some, Option.isNone_none, Bool.not_true, Bool.not_false] at h
          refine tl_c rfl (o_call bd24 rfl (works_c)) ?_
          rintro _ _ ⟨rfl, rfl⟩
          refine tl_v rfl (o_pick_t rfl (by conv => lhs; whnf)) ?_
          refine tl_v rfl (o_assign (by conv => lhs; whnf)) ?_
          refine tl_nil ?_
          refine q_then_n ?_
          refine tc_ret ?_
          refine q_then_r ?_
          exact ⟨.bool true, A, res1 rfl rfl, Dr.sat (by repeat (first | with_reducible exact dr_refl | apply dr_keep | apply dr_drop)), rfl, rfl⟩
        · (exfalso; first | (revert h; simp; done) | (simp at h; done) | (revert h; simp; omega) | (simp at h; omega) | omega)
      · exfalso; simp at h
theorem img_ls {s t : DevS} (h : s.ls = t.ls) : imgS s = imgS t := by unfold imgS; rw [h]
theorem fmA_len (n : Nat) (s : DevS) : (fmA n s).1.length = 5 := by unfold fmA; split <;> rfl
theorem fmA_0 {n : Nat} {s s2 : DevS} (h : fmtF (fst4 n) s = (0, s2)) : (fmA n s).1 = [(n : Int), ((128 : Nat) : Int), ((32768 : Nat) : Int), ((32896 : Nat) : Int), (((n - 32896) / 256 : Nat) : Int)] := by unfold fmA; rw [h, if_neg (by simp)]
theorem zero_rep {n : Nat} : (decide (∀ x ∈ List.replicate n 0, x = 0)) = true := decide_eq_true fun x hx => List.eq_of_mem_replicate hx
theorem lost_off {n : Nat} {xs : List Nat} {s : DevS} (h : LostI n xs (imgS s)) : LostI n xs (imgS { s with off := false }) := by rw [img_offL]; exact h
theorem wf_off {s : DevS} (h : WfD s) : WfD { s with off := false } := ⟨h.pos, h.top, h.line, h.arms, h.after, h.keeps⟩
theorem done_goes {n : Nat} {xs : List Nat} {kp : List Int} {s : DevS} (hc : Cln s) (h : DoneI n xs (imgS s)) : DoneI n xs (imgS { goesS kp s with off := false }) := by
  have : imgS { goesS kp s with off := false } = imgS s := (img_offL _).trans (goes_single hc)
  rw [this]; exact h
theorem cr_ok {kp : List Int} {s s2 : DevS} {e : Int} (ho : s.off = false) (h : crS kp s = (e, s2)) (he : e = 0) : s2 = goesS kp s := by
  unfold crS at h
  rw [if_neg (by rw [ho]; decide)] at h
  split at h
  · simp only [Prod.mk.injEq] at h; omega
  · simp only [Prod.mk.injEq] at h; exact h.2.symm
theorem goes_len (kp : List Int) (s : DevS) : (goesS kp s).ls.length = s.ls.length := by simp only [goesS, goPart_length]
theorem Root_5 {A R : SP} {C : SP → SP} {d : Nat} {s : DevS} {w : Nat} {e : Int} (hc : Ct A (Dev d s) R C) (hr : rootA s = (w, e)) : Fn Try.prog 67 #[.pointer (some ⟨d, 0, none⟩)] A (fun r B => r = .tuple #[.int .u64 ((w : Nat) : Int), .int .i64 e] ∧ A = B) := by
  have := Root_c hc; rw [hr] at this; exact this
set_option maxRecDepth 20000 in
set_option maxHeartbeats 4000000 in
theorem SuperLost_ok (A : SP) {n : Nat} {tn af : Int} {fl hcp kc : Nat} {ha ka : Option Addr} {hd : List Nat} {kp : List Int} {rt : Bool} (hrh : Rs A ha (bys hd)) (hhb : ∀ x ∈ hd, x < 256) (hfl : fl < 256) (hht : -9223372036854775808 ≤ tn ∧ tn ≤ 9223372036854775807) (hhl : hd.length ≤ 140737488351232) (hrk : Rs A ka (ints kp)) (hkl : kp.length ≤ 17592186043904) (hkb : ∀ k ∈ kp, k ≤ 9223372036854775807) {k : Nat} (hk : n = k * 64) (hn : 36992 ≤ n) (hn2 : n ≤ 4194304) (hkc : kp.length ≤ kc) :
    Fn Try.prog 16 #[.agg ([.int .i64 (n : Int), .int .u8 (fl : Nat), .slice ha hd.length hcp, .bool rt, .int .i64 tn] : List Value).toArray, .int .i64 af, .slice ka kp.length kc] (A) (fun r B => r = .bool true ∧ B = A) := by
  refine fn_enterW (args := [.agg ([.int .i64 (n : Int), .int .u8 (fl : Nat), .slice ha hd.length hcp, .bool rt, .int .i64 tn] : List Value).toArray, .int .i64 af, .slice ka kp.length kc]) Try.func16 rfl Try.ntmps16 (by simp) ?_
  refine tc_seq ?_
  refine tc_reg ?_
  refine tl_x rfl (o_box rfl rfl) ?_
  rintro _ _ ⟨b3, rfl, rfl⟩
  refine tl_v rfl (o_assign (by conv => lhs; whnf)) ?_
  refine tl_nil ?_
  refine q_then_n ?_
  refine tc_seq ?_
  refine tc_reg ?_
  refine tl_v rfl (o_loadN (vs := [.int .i64 (n : Int), .int .u8 (fl : Nat), .slice ha hd.length hcp, .bool rt, .int .i64 tn]) a121 sz121 rfl (by repeat (first | with_reducible exact has_here | with_reducible exact has_pt | apply has_left)) (by show 5 ≤ 5; decide) rfl) ?_
  refine tl_c rfl (o_call bd64 rfl (ImBytes_ok (hrh := (by repeat (first | exact hrh | apply Rs.left))) (hhb := hhb) (hfl := hfl) (hht := hht) (hn := by omega) (hhl := hhl))) ?_
  rintro _ _ ⟨a20, c20, xs, rfl, hc20, hxl, hxb, rfl⟩
  refine tl_v rfl (o_assign (by conv => lhs; whnf)) ?_
  refine tl_nil ?_
  refine q_then_n ?_
  refine tc_seq ?_
  refine tc_reg ?_
  refine tl_v rfl (o_move (by conv => lhs; whnf)) ?_
  refine tl_c rfl (o_call bd39 rfl (CopyBytes_c (xs := xs))) ?_
  rintro _ _ ⟨u23, c23, rfl, hc23, rfl⟩
  refine tl_c rfl (o_call bd42 rfl (From_c (n := k) (xs := xs))) ?_
  rintro _ _ ⟨d24, rfl, rfl⟩
  refine tl_v rfl (o_move (by conv => lhs; whnf)) ?_
  refine tl_v rfl (o_extract rfl rfl) ?_
  refine tl_v rfl (o_extract rfl rfl) ?_
  refine tl_v rfl (o_assign (by conv => lhs; whnf)) ?_
  refine tl_v rfl (o_assign (by conv => lhs; whnf)) ?_
  refine tl_nil ?_
  refine q_then_n ?_
  refine tc_seq ?_
  refine tc_seq ?_
  refine tc_reg ?_
  refine tl_v rfl (o_move (by conv => lhs; whnf)) ?_
  refine tl_v rfl (o_nei rfl rfl) ?_
  refine tl_nil ?_
  refine q_then_n ?_
  refine tc_cond rfl (fun h => ?_) (fun h => ?_)
  · exfalso; simp at h
  · try simp only [decide_eq_true_eq, decide_eq_false_iff_not, Bool.not_eq_true', Bool.not_eq_false', Option.isNone_some, Option.isNone_none, Bool.not_true, Bool.not_false] at h
    refine tc_skip ?_
    refine q_then_n ?_
    refine tc_seq ?_
    refine tc_seq ?_
    refine tc_reg ?_
    refine tl_v rfl (o_move (by conv => lhs; whnf)) ?_
    refine tl_v rfl (o_gtr rfl rfl) ?_
    refine tl_v rfl (o_move (by conv => lhs; whnf)) ?_
    refine tl_bool (d := 32) rfl (fun h => ?_) (fun h => ?_)
    · have haf1 : 0 < af := by simpa using h
      refine tl_v rfl (o_move (by conv => lhs; whnf)) ?_
      refine tl_v rfl (o_lss rfl rfl) ?_
      refine tl_v rfl (o_pick_t rfl (by conv => lhs; whnf)) ?_
      refine tl_v rfl (o_move (by conv => lhs; whnf)) ?_
      refine tl_bool (d := 36) rfl (fun h => ?_) (fun h => ?_)
      · have haf2 : 0 < af ∧ af < 60 := by first | omega | (simp at h; omega)
        refine tl_v rfl (o_move (by conv => lhs; whnf)) ?_
        refine tl_v rfl (o_move (by conv => lhs; whnf)) ?_
        refine tl_v rfl (o_move (by conv => lhs; whnf)) ?_
        refine tl_v rfl (o_bS (l := [.int .i64 af, .slice ka kp.length kc]) (pv_cons (by conv => lhs; whnf) (pv_cons (by conv => lhs; whnf) pv_nil)) Try.underlying72 z72 (pl72 Try.underlying72) rfl) ?_
        refine tl_x rfl (o_buildSliceK (k := 2) (l := [.int .i64 af, .slice ka kp.length kc]) Try.underlying74 sz72 z72 rfl rfl (by decide)) ?_
        rintro _ _ ⟨b41, rfl, rfl⟩
        refine tl_c rfl (o_call bd44 rfl (Arm_c (s := fromS k xs) (kvs := [.slice ka kp.length kc]) (ars := [(af, kp)]) (hm := rfl) (hr := ⟨by repeat (first | assumption | exact rs_sl | exact rs_pt0 | exact rs_none | apply Rs.left), rfl, fun i h => by have h0 : i = 0 := (by simpa using h); subst h0; exact ⟨_, _, rfl, (by show kp.length ≤ _; exact hkc), (by repeat (first | exact hrk | apply Rs.left))⟩⟩) (hk := fun x hx => by simp only [List.mem_singleton] at hx; subst hx; exact ⟨by constructor <;> (show _ ≤ _) <;> omega, by show kp.length ≤ _; omega, hkb⟩))) ?_
        rintro _ _ ⟨e42, s42, hs42, rfl, rfl⟩
        refine tl_v rfl (o_nei rfl rfl) ?_
        refine tl_v rfl (o_pick_t rfl (by conv => lhs; whnf)) ?_
        refine tl_nil ?_
        refine q_then_n ?_
        refine tc_cond rfl (fun h => ?_) (fun h => ?_)
        · try simp only [decide_eq_true_eq, decide_eq_false_iff_not, Bool.not_eq_true', Bool.not_eq_false', Option.isNone_some, Option.isNone_none, Bool.not_true, Bool.not_false] at h
          refine tc_seq ?_
          refine tc_reg ?_
          refine tl_c rfl (o_call bd24 rfl (works_c)) ?_
          rintro _ _ ⟨rfl, rfl⟩
          refine tl_v rfl (o_assign (by conv => lhs; whnf)) ?_
          refine tl_nil ?_
          refine q_then_n ?_
          refine tc_ret ?_
          refine q_then_r ?_
          exact ⟨.bool true, A, res1 rfl rfl, Dr.sat (by repeat (first | with_reducible exact dr_refl | apply dr_keep | apply dr_drop)), rfl, rfl⟩
        · try simp only [decide_eq_true_eq, decide_eq_false_iff_not, Bool.not_eq_true', Bool.not_eq_false', Option.isNone_some, Option.isNone_none, Bool.not_true, Bool.not_false] at h
          refine tc_skip ?_
          refine q_then_n ?_
          refine tc_seq ?_
          have hs42 : s42.off = false ∧ s42.ls = (fromS k xs).ls := by first | exact ha0 | exact armS_cases (from_live k xs).1 (from_live k xs).2 hs42 (by simpa using h)
          have hl42 : s42.ls.length = k := by rw [hs42.2]; exact from_lslen k xs
          have hc42 : Cln s42 := fun l hl => by rw [hs42.2] at hl; exact cln_from k xs l hl
          have hi42 : imgS s42 = xs := (img_ls hs42.2).trans (img_from hxb (by omega))
          refine tc_reg ?_
          refine tl_v rfl (o_move (by conv => lhs; whnf)) ?_
          refine tl_have (fun _ _ h => ct_wf2 (d := d24) (s := s42) (by repeat (first | with_reducible exact ct_here | apply ct_left)) h) fun hw42 => ?_
          refine tl_c rfl (o_call bd75 rfl (Format_ok (s := s42) (n := n) (hoff := hs42.1) (hlen := by omega) (hn := by omega) (hroom := room_le (cln_room hc42) (by decide)))) ?_
          rintro _ _ ⟨e48, s48, hs48, rfl, rfl⟩
          obtain ⟨e', s', hq1, hw48, hc48, hl48, hcase⟩ := super_law hk hn hxl hw42 hs42.1 hc42 hl42 hi42
          obtain ⟨rfl, rfl⟩ : e48 = e' ∧ s48 = s' := by rw [hs48] at hq1; simpa using hq1
          obtain ⟨m0, m1, m2, m3, m4, hfm⟩ := five_i (fmA_len n s42)
          rw [hfm]
          refine tl_v rfl (o_move (by conv => lhs; whnf)) ?_
          refine tl_v rfl (o_extract rfl rfl) ?_
          refine tl_v rfl (o_extract rfl rfl) ?_
          refine tl_x rfl (o_alloc z23 rfl) ?_
          rintro _ _ ⟨b10, rfl, rfl⟩
          refine tl_u rfl (o_stUN (l' := ints [m0, m1, m2, m3, m4]) rfl (by repeat (first | with_reducible exact upd_here | with_reducible exact upd_pt | apply upd_left)) sz23 rfl rfl rfl (by show 5 ≤ 5; decide) rfl) ?_
          refine tl_v rfl (o_assign (by conv => lhs; whnf)) ?_
          refine tl_nil ?_
          refine q_then_n ?_
          refine tc_seq ?_
          refine tc_reg ?_
          refine tl_v rfl (o_move (by conv => lhs; whnf)) ?_
          refine tl_v rfl (o_len Try.underlying28 rfl) ?_
          refine tl_c rfl (o_call bd18 rfl (Plan_ok (n := n) (by omega))) ?_
          rintro _ _ ⟨rfl, rfl⟩
          refine tl_v rfl (o_move (by conv => lhs; whnf)) ?_
          refine tl_v rfl (o_extract rfl rfl) ?_
          refine tl_v rfl (o_extract rfl rfl) ?_
          refine tl_x rfl (o_alloc z23 rfl) ?_
          rintro _ _ ⟨b11, rfl, rfl⟩
          refine tl_u rfl (o_stUN (l' := ints [(n : Int), ((128 : Nat) : Int), ((32768 : Nat) : Int), ((32896 : Nat) : Int), (((n - 32896) / 256 : Nat) : Int)]) rfl (by repeat (first | with_reducible exact upd_here | with_reducible exact upd_pt | apply upd_left)) sz23 rfl rfl rfl (by show 5 ≤ 5; decide) rfl) ?_
          refine tl_v rfl (o_assign (by conv => lhs; whnf)) ?_
          refine tl_nil ?_
          refine q_then_n ?_
          refine tc_seq ?_
          refine tc_seq ?_
          refine tc_reg ?_
          refine tl_v rfl (o_move (by conv => lhs; whnf)) ?_
          refine tl_v rfl (o_nei rfl rfl) ?_
          refine tl_nil ?_
          refine q_then_n ?_
          refine tc_cond rfl (fun h => ?_) (fun h => ?_)
          · exfalso; simp at h
          · try simp only [decide_eq_true_eq, decide_eq_false_iff_not, Bool.not_eq_true', Bool.not_eq_false', Option.isNone_some, Option.isNone_none, Bool.not_true, Bool.not_false] at h
            refine tc_skip ?_
            refine q_then_n ?_
            refine tc_seq ?_
            refine tc_seq ?_
            refine tc_reg ?_
            refine tl_v rfl (o_move (by conv => lhs; whnf)) ?_
            refine tl_v rfl (o_eqi rfl rfl) ?_
            refine tl_v rfl (o_move (by conv => lhs; whnf)) ?_
            refine tl_bool (d := 67) rfl (fun h => ?_) (fun h => ?_)
            · obtain rfl : e48 = 0 := by simpa using h
              obtain ⟨_, ho48, hD⟩ := hcase.resolve_right (fun h => by have := h.1; omega)
              have hm : [m0, m1, m2, m3, m4] = [(n : Int), ((128 : Nat) : Int), ((32768 : Nat) : Int), ((32896 : Nat) : Int), (((n - 32896) / 256 : Nat) : Int)] := by rw [← hfm]; exact fmA_0 hs48
              simp only [List.cons.injEq, and_true] at hm
              obtain ⟨rfl, rfl, rfl, rfl, rfl⟩ := hm
              refine tl_v rfl (o_loadN (vs := ints [(n : Int), ((128 : Nat) : Int), ((32768 : Nat) : Int), ((32896 : Nat) : Int), (((n - 32896) / 256 : Nat) : Int)]) a23 sz23 rfl (by repeat (first | with_reducible exact has_here | with_reducible exact has_pt | apply has_left)) (by show 5 ≤ 5; decide) rfl) ?_
              refine tl_v rfl (o_loadN (vs := ints [(n : Int), ((128 : Nat) : Int), ((32768 : Nat) : Int), ((32896 : Nat) : Int), (((n - 32896) / 256 : Nat) : Int)]) a23 sz23 rfl (by repeat (first | with_reducible exact has_here | with_reducible exact has_pt | apply has_left)) (by show 5 ≤ 5; decide) rfl) ?_
              refine tl_v rfl (o_nest (k := 5) (l := [(n : Int), ((128 : Nat) : Int), ((32768 : Nat) : Int), ((32896 : Nat) : Int), (((n - 32896) / 256 : Nat) : Int)]) (m := [(n : Int), ((128 : Nat) : Int), ((32768 : Nat) : Int), ((32896 : Nat) : Int), (((n - 32896) / 256 : Nat) : Int)]) Try.underlying23 (by kernel_rfl) (by kernel_rfl) (by kernel_rfl) rfl rfl rfl rfl) ?_
              refine tl_v rfl (o_pick_t rfl (by conv => lhs; whnf)) ?_
              refine tl_nil ?_
              refine q_then_n ?_
              refine tc_cond rfl (fun h => ?_) (fun h => ?_)
              · exfalso; simp at h
              · try simp only [decide_eq_true_eq, decide_eq_false_iff_not, Bool.not_eq_true', Bool.not_eq_false', Option.isNone_some, Option.isNone_none, Bool.not_true, Bool.not_false] at h
                refine tc_skip ?_
                refine q_then_n ?_
                refine tc_seq ?_
                refine tc_seq ?_
                refine tc_reg ?_
                refine tl_v rfl (o_move (by conv => lhs; whnf)) ?_
                refine tl_v rfl (o_eqi rfl rfl) ?_
                refine tl_v rfl (o_move (by conv => lhs; whnf)) ?_
                refine tl_bool (d := 74) rfl (fun h => ?_) (fun h => ?_)
                · try simp only [decide_eq_true_eq, decide_eq_false_iff_not, Bool.not_eq_true', Bool.not_eq_false', Option.isNone_some, Option.isNone_none, Bool.not_true, Bool.not_false] at h
                  refine tl_v rfl (o_move (by conv => lhs; whnf)) ?_
                  refine tl_v rfl (o_move (by conv => lhs; whnf)) ?_
                  refine tl_c rfl (o_call bd28 rfl (Crash_c (s := s48) (keep := kp) (hr := (by repeat (first | exact hrk | apply Rs.left))) (hk := hkb) (hm := rfl))) ?_
                  rintro _ _ ⟨e77, s77, hs77, rfl, rfl⟩
                  refine tl_v rfl (o_nei rfl rfl) ?_
                  refine tl_v rfl (o_pick_t rfl (by conv => lhs; whnf)) ?_
                  refine tl_nil ?_
                  refine q_then_n ?_
                  refine tc_cond rfl (fun h => ?_) (fun h => ?_)
                  · try simp only [decide_eq_true_eq, decide_eq_false_iff_not, Bool.not_eq_true', Bool.not_eq_false', Option.isNone_some, Option.isNone_none, Bool.not_true, Bool.not_false] at h
                    refine tc_seq ?_
                    refine tc_reg ?_
                    refine tl_c rfl (o_call bd24 rfl (works_c)) ?_
                    rintro _ _ ⟨rfl, rfl⟩
                    refine tl_v rfl (o_assign (by conv => lhs; whnf)) ?_
                    refine tl_nil ?_
                    refine q_then_n ?_
                    refine tc_ret ?_
                    refine q_then_r ?_
                    exact ⟨.bool true, A, res1 rfl rfl, Dr.sat (by repeat (first | with_reducible exact dr_refl | apply dr_keep | apply dr_drop)), rfl, rfl⟩
                  · obtain rfl : s77 = goesS kp s48 := cr_ok ho48 hs77 (by simpa using h)
                    refine tc_skip ?_
                    refine q_then_n ?_
                    refine tc_seq ?_
                    refine tc_seq ?_
                    refine tc_reg ?_
                    refine tl_v rfl (o_move (by conv => lhs; whnf)) ?_
                    refine tl_c rfl (o_call bd32 rfl (Wake_c)) ?_
                    rintro _ _ ⟨rfl, rfl⟩
                    refine tl_env (d := 82) (v := .int .i64 0) (rfl) ?_
                    refine tl_v rfl (o_nei rfl rfl) ?_
                    refine tl_nil ?_
                    refine q_then_n ?_
                    refine tc_cond rfl (fun h => ?_) (fun h => ?_)
                    · exfalso; simp at h
                    · try simp only [decide_eq_true_eq, decide_eq_false_iff_not, Bool.not_eq_true', Bool.not_eq_false', Option.isNone_some, Option.isNone_none, Bool.not_true, Bool.not_false] at h
                      refine tc_skip ?_
                      refine q_then_n ?_
                      refine tc_seq ?_
                      obtain ⟨s3, hs3⟩ : ∃ s3, s3 = { goesS kp s48 with off := false } := ⟨_, rfl⟩
                      rw [← hs3]
                      have ho3 : s3.off = false := by rw [hs3]
                      have hl3 : s3.ls.length = k := by rw [hs3]; exact (goes_len kp s48).trans hl48
                      have hw3 : WfD s3 := by rw [hs3]; exact wf_off (goesS_wf hw48)
                      have hD3 : DoneI n xs (imgS s3) := by rw [hs3]; exact done_goes hc48 hD
                      have hdr : (imgS s3).drop 192 = xs.drop 192 := hD3.2.1
                      have hi3 : (imgS s3).length = n := hD3.1
                      have hl3n : s3.ls.length * 64 = n := by omega
                      obtain ⟨q0, q1, q2, q3, q4, hq⟩ := five_i (rdA_len s3)
                      obtain ⟨e0, he0⟩ : ∃ e0, e0 = (rdA s3).2 := ⟨_, rfl⟩
                      have hrd : rdA s3 = ([q0, q1, q2, q3, q4], e0) := by rw [← hq, he0]
                      obtain ⟨w6, hw6⟩ : ∃ w6, w6 = (rootA s3).1 := ⟨_, rfl⟩
                      obtain ⟨e6, he6⟩ : ∃ e6, e6 = (rootA s3).2 := ⟨_, rfl⟩
                      have hroot : rootA s3 = (w6, e6) := by rw [hw6, he6]
                      refine tc_reg ?_
                      refine tl_v rfl (o_move (by conv => lhs; whnf)) ?_
                      refine tl_c rfl (o_call bd33 rfl (Image_c (s := s3))) ?_
                      rintro _ _ ⟨a85, c85, rfl, hc85, rfl⟩
                      rw [hl3n] at hc85 ⊢
                      refine tl_v rfl (o_assign (by conv => lhs; whnf)) ?_
                      refine tl_nil ?_
                      refine q_then_n ?_
                      refine tc_seq ?_
                      refine tc_reg ?_
                      refine tl_v rfl (o_move (by conv => lhs; whnf)) ?_
                      refine tl_c rfl (o_call bd48 rfl (Read_5 (s := s3) (by repeat (first | with_reducible exact ct_here | apply ct_left)) hrd)) ?_
                      rintro _ _ ⟨rfl, rfl⟩
                      refine tl_v rfl (o_move (by conv => lhs; whnf)) ?_
                      refine tl_v rfl (o_extract rfl rfl) ?_
                      refine tl_v rfl (o_extract rfl rfl) ?_
                      refine tl_x rfl (o_alloc z23 rfl) ?_
                      rintro _ _ ⟨b14, rfl, rfl⟩
                      refine tl_u rfl (o_stUN (l' := ints [q0, q1, q2, q3, q4]) rfl (by repeat (first | with_reducible exact upd_here | with_reducible exact upd_pt | apply upd_left)) sz23 rfl rfl rfl (by show 5 ≤ 5; decide) rfl) ?_
                      refine tl_v rfl (o_assign (by conv => lhs; whnf)) ?_
                      refine tl_nil ?_
                      refine q_then_n ?_
                      refine tc_seq ?_
                      refine tc_reg ?_
                      refine tl_v rfl (o_move (by conv => lhs; whnf)) ?_
                      refine tl_c rfl (o_call bd67 rfl (Root_5 (s := s3) (by repeat (first | with_reducible exact ct_here | apply ct_left)) hroot)) ?_
                      rintro _ _ ⟨rfl, rfl⟩
                      refine tl_v rfl (o_move (by conv => lhs; whnf)) ?_
                      refine tl_v rfl (o_extract rfl rfl) ?_
                      refine tl_v rfl (o_extract rfl rfl) ?_
                      refine tl_v rfl (o_assign (by conv => lhs; whnf)) ?_
                      refine tl_v rfl (o_assign (by conv => lhs; whnf)) ?_
                      refine tl_nil ?_
                      refine q_then_n ?_
                      refine tc_seq ?_
                      refine tc_seq ?_
                      refine tc_regq mo (by kernel_rfl) ?_
                      refine ql_v rfl (o_move (by conv => lhs; whnf)) ?_
                      refine ql_v rfl (o_len Try.underlying28 rfl) ?_
                      refine ql_v rfl (o_move (by conv => lhs; whnf)) ?_
                      refine ql_v rfl (o_len Try.underlying28 rfl) ?_
                      refine ql_v rfl (o_nei rfl rfl) ?_
                      refine ql_v rfl (o_move (by conv => lhs; whnf)) ?_
                      refine ql_bool (d := 101) rfl (fun h => ?_) (fun h => ?_)
                      · exfalso; simp at h
                      · try simp only [decide_eq_true_eq, decide_eq_false_iff_not, Bool.not_eq_true', Bool.not_eq_false', Option.isNone_some, Option.isNone_none, Bool.not_true, Bool.not_false] at h
                        refine ql_v rfl (o_move (by conv => lhs; whnf)) ?_
                        refine ql_v rfl (o_slice (l := 192) Try.underlying28 sz5 rfl (bnd_nat rfl) bnd_none (by omega) (by omega)) ?_
                        refine ql_v rfl (o_move (by conv => lhs; whnf)) ?_
                        refine ql_v rfl (o_slice (l := 192) Try.underlying28 sz5 rfl (bnd_nat rfl) bnd_none (by omega) (by omega)) ?_
                        refine ql_c rfl (fun w => exec_call bd22 rfl) (EqBytes_c (xs := (imgS s3).drop 192) (ys := xs.drop 192) (h1 := rs_cutC (by repeat (first | with_reducible exact rs_sl | apply Rs.left)) (by omega)) (h2 := rs_cutC (by repeat (first | with_reducible exact rs_sl | apply Rs.left)) (by omega)) (hx := by rw [List.length_drop]; omega) (hy := by rw [List.length_drop]; omega)) ?_
                        refine ql_env (d := 106) (v := .bool true) (congrArg Value.bool (decide_eq_true hdr)) ?_
                        refine ql_v rfl (o_not rfl) ?_
                        refine ql_v rfl (o_pick_f rfl (by conv => lhs; whnf)) ?_
                        refine ql_nil ?_
                        refine q_then_n ?_
                        refine tc_cond rfl (fun h => ?_) (fun h => ?_)
                        · exfalso; simp at h
                        · try simp only [decide_eq_true_eq, decide_eq_false_iff_not, Bool.not_eq_true', Bool.not_eq_false', Option.isNone_some, Option.isNone_none, Bool.not_true, Bool.not_false] at h
                          refine tc_skip ?_
                          refine q_then_n ?_
                          refine tc_seq ?_
                          refine tc_seq ?_
                          refine tc_reg ?_
                          refine tl_v rfl (o_move (by conv => lhs; whnf)) ?_
                          refine tl_v rfl (o_eqi rfl rfl) ?_
                          refine tl_nil ?_
                          refine q_then_n ?_
                          refine tc_cond rfl (fun h => ?_) (fun h => ?_)
                          · obtain ⟨hx1, hx2⟩ : [q0, q1, q2, q3, q4] = [(n : Int), ((128 : Nat) : Int), ((32768 : Nat) : Int), ((32896 : Nat) : Int), (((n - 32896) / 256 : Nat) : Int)] ∧ e0 = 0 := by have := (rd_is hk hn ho3 hl3).trans (rdT_t hD3.2.2.1); rw [hrd] at this; simpa using this
                            simp only [List.cons.injEq, and_true] at hx1
                            obtain ⟨rfl, rfl, rfl, rfl, rfl⟩ := hx1
                            obtain ⟨hx3, hx4⟩ : w6 = 0 ∧ e6 = 0 := by have := root_t hk hn ho3 hl3 hD3.2.2.1 hD3.2.2.2; rw [hroot] at this; simpa using this
                            subst hx2 hx3 hx4
                            refine tc_seq ?_
                            refine tc_reg ?_
                            refine tl_v rfl (o_move (by conv => lhs; whnf)) ?_
                            refine tl_v rfl (o_eqi rfl rfl) ?_
                            refine tl_v rfl (o_move (by conv => lhs; whnf)) ?_
                            refine tl_bool (d := 113) rfl (fun h => ?_) (fun h => ?_)
                            · try simp only [decide_eq_true_eq, decide_eq_false_iff_not, Bool.not_eq_true', Bool.not_eq_false', Option.isNone_some, Option.isNone_none, Bool.not_true, Bool.not_false] at h
                              refine tl_v rfl (o_loadN (vs := ints [(n : Int), ((128 : Nat) : Int), ((32768 : Nat) : Int), ((32896 : Nat) : Int), (((n - 32896) / 256 : Nat) : Int)]) a23 sz23 rfl (by repeat (first | with_reducible exact has_here | with_reducible exact has_pt | apply has_left)) (by show 5 ≤ 5; decide) rfl) ?_
                              refine tl_v rfl (o_loadN (vs := ints [(n : Int), ((128 : Nat) : Int), ((32768 : Nat) : Int), ((32896 : Nat) : Int), (((n - 32896) / 256 : Nat) : Int)]) a23 sz23 rfl (by repeat (first | with_reducible exact has_here | with_reducible exact has_pt | apply has_left)) (by show 5 ≤ 5; decide) rfl) ?_
                              refine tl_v rfl (o_eqst (k := 5) (l := [(n : Int), ((128 : Nat) : Int), ((32768 : Nat) : Int), ((32896 : Nat) : Int), (((n - 32896) / 256 : Nat) : Int)]) (m := [(n : Int), ((128 : Nat) : Int), ((32768 : Nat) : Int), ((32896 : Nat) : Int), (((n - 32896) / 256 : Nat) : Int)]) Try.underlying23 (by kernel_rfl) (by kernel_rfl) (by kernel_rfl) rfl rfl rfl rfl) ?_
                              refine tl_v rfl (o_pick_t rfl (by conv => lhs; whnf)) ?_
                              refine tl_v rfl (o_move (by conv => lhs; whnf)) ?_
                              refine tl_bool (d := 118) rfl (fun h => ?_) (fun h => ?_)
                              · try simp only [decide_eq_true_eq, decide_eq_false_iff_not, Bool.not_eq_true', Bool.not_eq_false', Option.isNone_some, Option.isNone_none, Bool.not_true, Bool.not_false] at h
                                refine tl_v rfl (o_move (by conv => lhs; whnf)) ?_
                                refine tl_v rfl (o_eqi rfl rfl) ?_
                                refine tl_v rfl (o_pick_t rfl (by conv => lhs; whnf)) ?_
                                refine tl_v rfl (o_move (by conv => lhs; whnf)) ?_
                                refine tl_bool (d := 122) rfl (fun h => ?_) (fun h => ?_)
                                · try simp only [decide_eq_true_eq, decide_eq_false_iff_not, Bool.not_eq_true', Bool.not_eq_false', Option.isNone_some, Option.isNone_none, Bool.not_true, Bool.not_false] at h
                                  refine tl_v rfl (o_move (by conv => lhs; whnf)) ?_
                                  refine tl_v rfl (o_eqi rfl rfl) ?_
                                  refine tl_v rfl (o_pick_t rfl (by conv => lhs; whnf)) ?_
                                  refine tl_v rfl (o_move (by conv => lhs; whnf)) ?_
                                  refine tl_bool (d := 126) rfl (fun h => ?_) (fun h => ?_)
                                  · try simp only [decide_eq_true_eq, decide_eq_false_iff_not, Bool.not_eq_true', Bool.not_eq_false', Option.isNone_some, Option.isNone_none, Bool.not_true, Bool.not_false] at h
                                    refine tl_v rfl (o_move (by conv => lhs; whnf)) ?_
                                    refine tl_v rfl (o_slice (l := 64) (h := 192) Try.underlying28 sz5 rfl (bnd_nat rfl) (bnd_nat rfl) (by omega) (by omega)) ?_
                                    refine tl_c rfl (o_call bd76 rfl (zero_c (xs := ((imgS s3).drop 64).take 128) (hr := rs_mid (by repeat (first | with_reducible exact rs_sl | apply Rs.left)) (by omega)) (hm := by rw [List.length_take, List.length_drop]; omega))) ?_
                                    rintro _ _ ⟨rfl, rfl⟩
                                    refine tl_env (d := 129) (v := .bool true) (congrArg Value.bool (show decide (∀ x ∈ ((imgS s3).drop 64).take 128, x = 0) = true by rw [hD3.2.2.2]; exact zero_rep)) ?_
                                    refine tl_v rfl (o_pick_t rfl (by conv => lhs; whnf)) ?_
                                    refine tl_v rfl (o_move (by conv => lhs; whnf)) ?_
                                    refine tl_bool (d := 131) rfl (fun h => ?_) (fun h => ?_)
                                    · try simp only [decide_eq_true_eq, decide_eq_false_iff_not, Bool.not_eq_true', Bool.not_eq_false', Option.isNone_some, Option.isNone_none, Bool.not_true, Bool.not_false] at h
                                      refine tl_c rfl (o_call bd24 rfl (works_c)) ?_
                                      rintro _ _ ⟨rfl, rfl⟩
                                      refine tl_v rfl (o_pick_t rfl (by conv => lhs; whnf)) ?_
                                      refine tl_v rfl (o_assign (by conv => lhs; whnf)) ?_
                                      refine tl_nil ?_
                                      refine q_then_n ?_
                                      refine tc_ret ?_
                                      refine q_then_r ?_
                                      exact ⟨.bool true, A, res1 rfl rfl, Dr.sat (by repeat (first | with_reducible exact dr_refl | apply dr_keep | apply dr_drop)), rfl, rfl⟩
                                    · (exfalso; first | (revert h; simp; done) | (simp at h; done) | (revert h; simp; omega) | (simp at h; omega) | omega)
                                  · (exfalso; first | (revert h; simp; done) | (simp at h; done) | (revert h; simp; omega) | (simp at h; omega) | omega)
                                · (exfalso; first | (revert h; simp; done) | (simp at h; done) | (revert h; simp; omega) | (simp at h; omega) | omega)
                              · (exfalso; first | (revert h; simp; done) | (simp at h; done) | (revert h; simp; omega) | (simp at h; omega) | omega)
                            · (exfalso; first | (revert h; simp; done) | (simp at h; done) | (revert h; simp; omega) | (simp at h; omega) | omega)
                          · exfalso; simp at h
                · (exfalso; first | (revert h; simp; done) | (simp at h; done) | (revert h; simp; omega) | (simp at h; omega) | omega)
            · have hne : e48 ≠ 0 := by simpa using h
              obtain ⟨rfl, ho48, hL⟩ := hcase.resolve_left (fun h => hne h.1)
              refine tl_skip rfl ?_
              refine tl_skip rfl ?_
              refine tl_skip rfl ?_
              refine tl_v rfl (o_pick_f rfl (by conv => lhs; whnf)) ?_
              refine tl_nil ?_
              refine q_then_n ?_
              refine tc_cond_f rfl ?_
              refine tc_skip ?_
              refine q_then_n ?_
              refine tc_seq ?_
              refine tc_seq ?_
              refine tc_reg ?_
              refine tl_v rfl (o_move (by conv => lhs; whnf)) ?_
              refine tl_v rfl (o_eqi rfl rfl) ?_
              refine tl_v rfl (o_move (by conv => lhs; whnf)) ?_
              refine tl_bool (d := 74) rfl (fun h => ?_) (fun h => ?_)
              · (exfalso; first | (revert h; simp; done) | (simp at h; done) | (revert h; simp; omega) | (simp at h; omega) | omega)
              · try simp only [decide_eq_true_eq, decide_eq_false_iff_not, Bool.not_eq_true', Bool.not_eq_false', Option.isNone_some, Option.isNone_none, Bool.not_true, Bool.not_false] at h
                refine tl_skip rfl ?_
                refine tl_skip rfl ?_
                refine tl_skip rfl ?_
                refine tl_skip rfl ?_
                refine tl_v rfl (o_pick_f rfl (by conv => lhs; whnf)) ?_
                refine tl_nil ?_
                refine q_then_n ?_
                refine tc_cond_f rfl ?_
                refine tc_skip ?_
                refine q_then_n ?_
                refine tc_seq ?_
                refine tc_seq ?_
                refine tc_reg ?_
                refine tl_v rfl (o_move (by conv => lhs; whnf)) ?_
                refine tl_c rfl (o_call bd32 rfl (Wake_c)) ?_
                rintro _ _ ⟨rfl, rfl⟩
                refine tl_env (d := 82) (v := .int .i64 0) (by rw [ho48]; rfl) ?_
                refine tl_v rfl (o_nei rfl rfl) ?_
                refine tl_nil ?_
                refine q_then_n ?_
                refine tc_cond rfl (fun h => ?_) (fun h => ?_)
                · exfalso; simp at h
                · try simp only [decide_eq_true_eq, decide_eq_false_iff_not, Bool.not_eq_true', Bool.not_eq_false', Option.isNone_some, Option.isNone_none, Bool.not_true, Bool.not_false] at h
                  refine tc_skip ?_
                  refine q_then_n ?_
                  refine tc_seq ?_
                  obtain ⟨s3, hs3⟩ : ∃ s3, s3 = { s48 with off := false } := ⟨_, rfl⟩
                  rw [← hs3]
                  have ho3 : s3.off = false := by rw [hs3]
                  have hl3 : s3.ls.length = k := by rw [hs3]; exact hl48
                  have hw3 : WfD s3 := by rw [hs3]; exact wf_off hw48
                  have hL3 : LostI n xs (imgS s3) := by rw [hs3]; exact lost_off hL
                  have hdr : (imgS s3).drop 192 = xs.drop 192 := hL3.2.1
                  have hi3 : (imgS s3).length = n := hL3.1
                  have hl3n : s3.ls.length * 64 = n := by omega
                  obtain ⟨q0, q1, q2, q3, q4, hq⟩ := five_i (rdA_len s3)
                  obtain ⟨e0, he0⟩ : ∃ e0, e0 = (rdA s3).2 := ⟨_, rfl⟩
                  have hrd : rdA s3 = ([q0, q1, q2, q3, q4], e0) := by rw [← hq, he0]
                  obtain ⟨w6, hw6⟩ : ∃ w6, w6 = (rootA s3).1 := ⟨_, rfl⟩
                  obtain ⟨e6, he6⟩ : ∃ e6, e6 = (rootA s3).2 := ⟨_, rfl⟩
                  have hroot : rootA s3 = (w6, e6) := by rw [hw6, he6]
                  refine tc_reg ?_
                  refine tl_v rfl (o_move (by conv => lhs; whnf)) ?_
                  refine tl_c rfl (o_call bd33 rfl (Image_c (s := s3))) ?_
                  rintro _ _ ⟨a85, c85, rfl, hc85, rfl⟩
                  rw [hl3n] at hc85 ⊢
                  refine tl_v rfl (o_assign (by conv => lhs; whnf)) ?_
                  refine tl_nil ?_
                  refine q_then_n ?_
                  refine tc_seq ?_
                  refine tc_reg ?_
                  refine tl_v rfl (o_move (by conv => lhs; whnf)) ?_
                  refine tl_c rfl (o_call bd48 rfl (Read_5 (s := s3) (by repeat (first | with_reducible exact ct_here | apply ct_left)) hrd)) ?_
                  rintro _ _ ⟨rfl, rfl⟩
                  refine tl_v rfl (o_move (by conv => lhs; whnf)) ?_
                  refine tl_v rfl (o_extract rfl rfl) ?_
                  refine tl_v rfl (o_extract rfl rfl) ?_
                  refine tl_x rfl (o_alloc z23 rfl) ?_
                  rintro _ _ ⟨b14, rfl, rfl⟩
                  refine tl_u rfl (o_stUN (l' := ints [q0, q1, q2, q3, q4]) rfl (by repeat (first | with_reducible exact upd_here | with_reducible exact upd_pt | apply upd_left)) sz23 rfl rfl rfl (by show 5 ≤ 5; decide) rfl) ?_
                  refine tl_v rfl (o_assign (by conv => lhs; whnf)) ?_
                  refine tl_nil ?_
                  refine q_then_n ?_
                  refine tc_seq ?_
                  refine tc_reg ?_
                  refine tl_v rfl (o_move (by conv => lhs; whnf)) ?_
                  refine tl_c rfl (o_call bd67 rfl (Root_5 (s := s3) (by repeat (first | with_reducible exact ct_here | apply ct_left)) hroot)) ?_
                  rintro _ _ ⟨rfl, rfl⟩
                  refine tl_v rfl (o_move (by conv => lhs; whnf)) ?_
                  refine tl_v rfl (o_extract rfl rfl) ?_
                  refine tl_v rfl (o_extract rfl rfl) ?_
                  refine tl_v rfl (o_assign (by conv => lhs; whnf)) ?_
                  refine tl_v rfl (o_assign (by conv => lhs; whnf)) ?_
                  refine tl_nil ?_
                  refine q_then_n ?_
                  refine tc_seq ?_
                  refine tc_seq ?_
                  refine tc_regq mo (by kernel_rfl) ?_
                  refine ql_v rfl (o_move (by conv => lhs; whnf)) ?_
                  refine ql_v rfl (o_len Try.underlying28 rfl) ?_
                  refine ql_v rfl (o_move (by conv => lhs; whnf)) ?_
                  refine ql_v rfl (o_len Try.underlying28 rfl) ?_
                  refine ql_v rfl (o_nei rfl rfl) ?_
                  refine ql_v rfl (o_move (by conv => lhs; whnf)) ?_
                  refine ql_bool (d := 101) rfl (fun h => ?_) (fun h => ?_)
                  · exfalso; simp at h
                  · try simp only [decide_eq_true_eq, decide_eq_false_iff_not, Bool.not_eq_true', Bool.not_eq_false', Option.isNone_some, Option.isNone_none, Bool.not_true, Bool.not_false] at h
                    refine ql_v rfl (o_move (by conv => lhs; whnf)) ?_
                    refine ql_v rfl (o_slice (l := 192) Try.underlying28 sz5 rfl (bnd_nat rfl) bnd_none (by omega) (by omega)) ?_
                    refine ql_v rfl (o_move (by conv => lhs; whnf)) ?_
                    refine ql_v rfl (o_slice (l := 192) Try.underlying28 sz5 rfl (bnd_nat rfl) bnd_none (by omega) (by omega)) ?_
                    refine ql_c rfl (fun w => exec_call bd22 rfl) (EqBytes_c (xs := (imgS s3).drop 192) (ys := xs.drop 192) (h1 := rs_cutC (by repeat (first | with_reducible exact rs_sl | apply Rs.left)) (by omega)) (h2 := rs_cutC (by repeat (first | with_reducible exact rs_sl | apply Rs.left)) (by omega)) (hx := by rw [List.length_drop]; omega) (hy := by rw [List.length_drop]; omega)) ?_
                    refine ql_env (d := 106) (v := .bool true) (congrArg Value.bool (decide_eq_true hdr)) ?_
                    refine ql_v rfl (o_not rfl) ?_
                    refine ql_v rfl (o_pick_f rfl (by conv => lhs; whnf)) ?_
                    refine ql_nil ?_
                    refine q_then_n ?_
                    refine tc_cond rfl (fun h => ?_) (fun h => ?_)
                    · exfalso; simp at h
                    · try simp only [decide_eq_true_eq, decide_eq_false_iff_not, Bool.not_eq_true', Bool.not_eq_false', Option.isNone_some, Option.isNone_none, Bool.not_true, Bool.not_false] at h
                      refine tc_skip ?_
                      refine q_then_n ?_
                      refine tc_seq ?_
                      refine tc_seq ?_
                      refine tc_reg ?_
                      refine tl_v rfl (o_move (by conv => lhs; whnf)) ?_
                      refine tl_v rfl (o_eqi rfl rfl) ?_
                      refine tl_nil ?_
                      refine q_then_n ?_
                      refine tc_cond rfl (fun h => ?_) (fun h => ?_)
                      · exfalso; simp at h
                      · try simp only [decide_eq_true_eq, decide_eq_false_iff_not, Bool.not_eq_true', Bool.not_eq_false', Option.isNone_some, Option.isNone_none, Bool.not_true, Bool.not_false] at h
                        refine tc_skip ?_
                        refine q_then_n ?_
                        refine tc_seq ?_
                        refine tc_regq mo (by kernel_rfl) ?_
                        refine ql_v rfl (o_move (by conv => lhs; whnf)) ?_
                        refine ql_v rfl (o_slice (h := 192) Try.underlying28 sz5 rfl bnd_none (bnd_nat rfl) (by omega) (by omega)) ?_
                        refine ql_env (d := 135) (v := .slice a85 192 c85) (by show Value.slice (cutAddr a85 c85 0 1) (192 - 0) (c85 - 0) = _; rw [cut_none]; rfl) ?_
                        refine ql_v rfl (o_move (by conv => lhs; whnf)) ?_
                        refine ql_v rfl (o_slice (h := 192) Try.underlying28 sz5 rfl bnd_none (bnd_nat rfl) (by omega) (by omega)) ?_
                        refine ql_env (d := 137) (v := .slice a20 192 c20) (by show Value.slice (cutAddr a20 c20 0 1) (192 - 0) (c20 - 0) = _; rw [cut_none]; rfl) ?_
                        refine ql_c rfl (fun w => exec_call bd22 rfl) (EqBytes_c (xs := (imgS s3).take 192) (ys := xs.take 192) (h1 := by rw [← bys_take]; exact Rs.sub (by repeat (first | with_reducible exact rs_sl | apply Rs.left)) _) (h2 := by rw [← bys_take]; exact Rs.sub (by repeat (first | with_reducible exact rs_sl | apply Rs.left)) _) (hx := by rw [List.length_take]; omega) (hy := by rw [List.length_take]; omega)) ?_
                        refine ql_v rfl (o_assign (by conv => lhs; whnf)) ?_
                        refine ql_nil ?_
                        refine q_then_n ?_
                        refine tc_seq ?_
                        have hfin := lost_rd hk hn ho3 hl3 hL3
                        rw [hrd, hroot] at hfin
                        refine tc_reg ?_
                        refine tl_v rfl (o_move (by conv => lhs; whnf)) ?_
                        refine tl_v rfl (o_eqi rfl rfl) ?_
                        refine tl_v rfl (o_move (by conv => lhs; whnf)) ?_
                        refine tl_bool (d := 141) rfl (fun h => ?_) (fun h => ?_)
                        · try simp only [decide_eq_true_eq, decide_eq_false_iff_not, Bool.not_eq_true', Bool.not_eq_false', Option.isNone_some, Option.isNone_none, Bool.not_true, Bool.not_false] at h
                          refine tl_v rfl (o_move (by conv => lhs; whnf)) ?_
                          refine tl_v rfl (o_move (by conv => lhs; whnf)) ?_
                          refine tl_bool (d := 143) rfl (fun h => ?_) (fun h => ?_)
                          · try simp only [decide_eq_true_eq, decide_eq_false_iff_not, Bool.not_eq_true', Bool.not_eq_false', Option.isNone_some, Option.isNone_none, Bool.not_true, Bool.not_false] at h
                            refine tl_skip rfl ?_
                            refine tl_skip rfl ?_
                            refine tl_skip rfl ?_
                            refine tl_skip rfl ?_
                            refine tl_skip rfl ?_
                            refine tl_skip rfl ?_
                            refine tl_v rfl (o_pick_t rfl (by conv => lhs; whnf)) ?_
                            refine tl_v rfl (o_move (by conv => lhs; whnf)) ?_
                            refine tl_skip rfl ?_
                            refine tl_skip rfl ?_
                            refine tl_skip rfl ?_
                            refine tl_skip rfl ?_
                            refine tl_skip rfl ?_
                            refine tl_skip rfl ?_
                            refine tl_skip rfl ?_
                            refine tl_skip rfl ?_
                            refine tl_skip rfl ?_
                            refine tl_skip rfl ?_
                            refine tl_skip rfl ?_
                            refine tl_skip rfl ?_
                            refine tl_skip rfl ?_
                            refine tl_skip rfl ?_
                            refine tl_skip rfl ?_
                            refine tl_skip rfl ?_
                            refine tl_v rfl (o_pick_t rfl (by conv => lhs; whnf)) ?_
                            refine tl_v rfl (o_pick_t rfl (by conv => lhs; whnf)) ?_
                            refine tl_v rfl (o_move (by conv => lhs; whnf)) ?_
                            refine tl_c rfl (o_call bd24 rfl (works_c)) ?_
                            rintro _ _ ⟨rfl, rfl⟩
                            refine tl_v rfl (o_pick_t rfl (by conv => lhs; whnf)) ?_
                            refine tl_v rfl (o_assign (by conv => lhs; whnf)) ?_
                            refine tl_nil ?_
                            refine q_then_n ?_
                            refine tc_ret ?_
                            exact ⟨.bool true, A, res1 rfl rfl, Dr.sat (by repeat (first | with_reducible exact dr_refl | apply dr_keep | apply dr_drop)), rfl, rfl⟩
                          · have hfin := hfin.resolve_left (by simpa using h)
                            simp only [Prod.mk.injEq] at hfin
                            refine tl_v rfl (o_move (by conv => lhs; whnf)) ?_
                            refine tl_v rfl (o_eqi rfl rfl) ?_
                            refine tl_v rfl (o_move (by conv => lhs; whnf)) ?_
                            refine tl_bool (d := 146) rfl (fun h => ?_) (fun h => ?_)
                            · have he0v : e0 = 100 := by simpa using h
                              have he6v : e6 = 100 := by rcases hfin with h | h <;> omega
                              subst he6v
                              refine tl_v rfl (o_move (by conv => lhs; whnf)) ?_
                              refine tl_v rfl (o_eqi rfl rfl) ?_
                              refine tl_v rfl (o_pick_t rfl (by conv => lhs; whnf)) ?_
                              refine tl_v rfl (o_pick_f rfl (by conv => lhs; whnf)) ?_
                              refine tl_v rfl (o_move (by conv => lhs; whnf)) ?_
                              refine tl_bool (d := 151) rfl (fun h => ?_) (fun h => ?_)
                              · try simp only [decide_eq_true_eq, decide_eq_false_iff_not, Bool.not_eq_true', Bool.not_eq_false', Option.isNone_some, Option.isNone_none, Bool.not_true, Bool.not_false] at h
                                refine tl_skip rfl ?_
                                refine tl_skip rfl ?_
                                refine tl_skip rfl ?_
                                refine tl_skip rfl ?_
                                refine tl_skip rfl ?_
                                refine tl_skip rfl ?_
                                refine tl_skip rfl ?_
                                refine tl_skip rfl ?_
                                refine tl_skip rfl ?_
                                refine tl_skip rfl ?_
                                refine tl_skip rfl ?_
                                refine tl_skip rfl ?_
                                refine tl_skip rfl ?_
                                refine tl_skip rfl ?_
                                refine tl_skip rfl ?_
                                refine tl_skip rfl ?_
                                refine tl_v rfl (o_pick_t rfl (by conv => lhs; whnf)) ?_
                                refine tl_v rfl (o_pick_t rfl (by conv => lhs; whnf)) ?_
                                refine tl_v rfl (o_move (by conv => lhs; whnf)) ?_
                                refine tl_c rfl (o_call bd24 rfl (works_c)) ?_
                                rintro _ _ ⟨rfl, rfl⟩
                                refine tl_v rfl (o_pick_t rfl (by conv => lhs; whnf)) ?_
                                refine tl_v rfl (o_assign (by conv => lhs; whnf)) ?_
                                refine tl_nil ?_
                                refine q_then_n ?_
                                refine tc_ret ?_
                                exact ⟨.bool true, A, res1 rfl rfl, Dr.sat (by repeat (first | with_reducible exact dr_refl | apply dr_keep | apply dr_drop)), rfl, rfl⟩
                              · exfalso; simp at h
                            · have he0v : e0 ≠ 100 := by simpa using h
                              obtain ⟨⟨hx1, hx2⟩, ⟨hx3, hx4⟩, hx5⟩ := hfin.resolve_left (fun h => he0v h.1.2)
                              simp only [List.cons.injEq, and_true] at hx1
                              obtain ⟨rfl, rfl, rfl, rfl, rfl⟩ := hx1
                              subst hx2 hx3 hx4
                              refine tl_skip rfl ?_
                              refine tl_skip rfl ?_
                              refine tl_v rfl (o_pick_f rfl (by conv => lhs; whnf)) ?_
                              refine tl_v rfl (o_pick_f rfl (by conv => lhs; whnf)) ?_
                              refine tl_v rfl (o_move (by conv => lhs; whnf)) ?_
                              refine tl_v rfl (o_move (by conv => lhs; whnf)) ?_
                              refine tl_v rfl (o_eqi rfl rfl) ?_
                              refine tl_v rfl (o_move (by conv => lhs; whnf)) ?_
                              refine tl_bool (d := 154) rfl (fun h => ?_) (fun h => ?_)
                              · try simp only [decide_eq_true_eq, decide_eq_false_iff_not, Bool.not_eq_true', Bool.not_eq_false', Option.isNone_some, Option.isNone_none, Bool.not_true, Bool.not_false] at h
                                refine tl_v rfl (o_loadN (vs := ints [(n : Int), ((128 : Nat) : Int), ((32768 : Nat) : Int), ((32896 : Nat) : Int), (((n - 32896) / 256 : Nat) : Int)]) a23 sz23 rfl (by repeat (first | with_reducible exact has_here | with_reducible exact has_pt | apply has_left)) (by show 5 ≤ 5; decide) rfl) ?_
                                refine tl_v rfl (o_loadN (vs := ints [(n : Int), ((128 : Nat) : Int), ((32768 : Nat) : Int), ((32896 : Nat) : Int), (((n - 32896) / 256 : Nat) : Int)]) a23 sz23 rfl (by repeat (first | with_reducible exact has_here | with_reducible exact has_pt | apply has_left)) (by show 5 ≤ 5; decide) rfl) ?_
                                refine tl_v rfl (o_eqst (k := 5) (l := [(n : Int), ((128 : Nat) : Int), ((32768 : Nat) : Int), ((32896 : Nat) : Int), (((n - 32896) / 256 : Nat) : Int)]) (m := [(n : Int), ((128 : Nat) : Int), ((32768 : Nat) : Int), ((32896 : Nat) : Int), (((n - 32896) / 256 : Nat) : Int)]) Try.underlying23 (by kernel_rfl) (by kernel_rfl) (by kernel_rfl) rfl rfl rfl rfl) ?_
                                refine tl_v rfl (o_pick_t rfl (by conv => lhs; whnf)) ?_
                                refine tl_v rfl (o_move (by conv => lhs; whnf)) ?_
                                refine tl_bool (d := 159) rfl (fun h => ?_) (fun h => ?_)
                                · try simp only [decide_eq_true_eq, decide_eq_false_iff_not, Bool.not_eq_true', Bool.not_eq_false', Option.isNone_some, Option.isNone_none, Bool.not_true, Bool.not_false] at h
                                  refine tl_v rfl (o_move (by conv => lhs; whnf)) ?_
                                  refine tl_v rfl (o_eqi rfl rfl) ?_
                                  refine tl_v rfl (o_pick_t rfl (by conv => lhs; whnf)) ?_
                                  refine tl_v rfl (o_move (by conv => lhs; whnf)) ?_
                                  refine tl_bool (d := 163) rfl (fun h => ?_) (fun h => ?_)
                                  · try simp only [decide_eq_true_eq, decide_eq_false_iff_not, Bool.not_eq_true', Bool.not_eq_false', Option.isNone_some, Option.isNone_none, Bool.not_true, Bool.not_false] at h
                                    refine tl_v rfl (o_move (by conv => lhs; whnf)) ?_
                                    refine tl_v rfl (o_slice (l := 64) (h := 192) Try.underlying28 sz5 rfl (bnd_nat rfl) (bnd_nat rfl) (by omega) (by omega)) ?_
                                    refine tl_c rfl (o_call bd76 rfl (zero_c (xs := ((imgS s3).drop 64).take 128) (hr := rs_mid (by repeat (first | with_reducible exact rs_sl | apply Rs.left)) (by omega)) (hm := by rw [List.length_take, List.length_drop]; omega))) ?_
                                    rintro _ _ ⟨rfl, rfl⟩
                                    refine tl_env (d := 166) (v := .bool true) (congrArg Value.bool (show decide (∀ x ∈ ((imgS s3).drop 64).take 128, x = 0) = true by rw [hx5]; exact zero_rep)) ?_
                                    refine tl_v rfl (o_pick_t rfl (by conv => lhs; whnf)) ?_
                                    refine tl_v rfl (o_pick_f rfl (by conv => lhs; whnf)) ?_
                                    refine tl_v rfl (o_pick_t rfl (by conv => lhs; whnf)) ?_
                                    refine tl_v rfl (o_move (by conv => lhs; whnf)) ?_
                                    refine tl_bool (d := 170) rfl (fun h => ?_) (fun h => ?_)
                                    · try simp only [decide_eq_true_eq, decide_eq_false_iff_not, Bool.not_eq_true', Bool.not_eq_false', Option.isNone_some, Option.isNone_none, Bool.not_true, Bool.not_false] at h
                                      refine tl_c rfl (o_call bd24 rfl (works_c)) ?_
                                      rintro _ _ ⟨rfl, rfl⟩
                                      refine tl_v rfl (o_pick_t rfl (by conv => lhs; whnf)) ?_
                                      refine tl_v rfl (o_assign (by conv => lhs; whnf)) ?_
                                      refine tl_nil ?_
                                      refine q_then_n ?_
                                      refine tc_ret ?_
                                      exact ⟨.bool true, A, res1 rfl rfl, Dr.sat (by repeat (first | with_reducible exact dr_refl | apply dr_keep | apply dr_drop)), rfl, rfl⟩
                                    · (exfalso; first | (revert h; simp; done) | (simp at h; done) | (revert h; simp; omega) | (simp at h; omega) | omega)
                                  · (exfalso; first | (revert h; simp; done) | (simp at h; done) | (revert h; simp; omega) | (simp at h; omega) | omega)
                                · (exfalso; first | (revert h; simp; done) | (simp at h; done) | (revert h; simp; omega) | (simp at h; omega) | omega)
                              · (exfalso; first | (revert h; simp; done) | (simp at h; done) | (revert h; simp; omega) | (simp at h; omega) | omega)
                        · (exfalso; first | (revert h; simp; done) | (simp at h; done) | (revert h; simp; omega) | (simp at h; omega) | omega)
      · obtain ⟨s42, hs42q⟩ : ∃ s, s = fromS k xs := ⟨_, rfl⟩
        rw [← hs42q]
        have ha0 : s42.off = false ∧ s42.ls = (fromS k xs).ls := by rw [hs42q]; exact ⟨(from_live k xs).1, rfl⟩
        refine tl_skip rfl ?_
        refine tl_skip rfl ?_
        refine tl_skip rfl ?_
        refine tl_skip rfl ?_
        refine tl_skip rfl ?_
        refine tl_skip rfl ?_
        refine tl_skip rfl ?_
        refine tl_v rfl (o_pick_f rfl (by conv => lhs; whnf)) ?_
        refine tl_nil ?_
        refine q_then_n ?_
        refine tc_cond_f rfl ?_
        refine tc_skip ?_
        refine q_then_n ?_
        refine tc_seq ?_
        have hs42 : s42.off = false ∧ s42.ls = (fromS k xs).ls := by first | exact ha0 | exact armS_cases (from_live k xs).1 (from_live k xs).2 hs42 (by simpa using h)
        have hl42 : s42.ls.length = k := by rw [hs42.2]; exact from_lslen k xs
        have hc42 : Cln s42 := fun l hl => by rw [hs42.2] at hl; exact cln_from k xs l hl
        have hi42 : imgS s42 = xs := (img_ls hs42.2).trans (img_from hxb (by omega))
        refine tc_reg ?_
        refine tl_v rfl (o_move (by conv => lhs; whnf)) ?_
        refine tl_have (fun _ _ h => ct_wf2 (d := d24) (s := s42) (by repeat (first | with_reducible exact ct_here | apply ct_left)) h) fun hw42 => ?_
        refine tl_c rfl (o_call bd75 rfl (Format_ok (s := s42) (n := n) (hoff := hs42.1) (hlen := by omega) (hn := by omega) (hroom := room_le (cln_room hc42) (by decide)))) ?_
        rintro _ _ ⟨e48, s48, hs48, rfl, rfl⟩
        obtain ⟨e', s', hq1, hw48, hc48, hl48, hcase⟩ := super_law hk hn hxl hw42 hs42.1 hc42 hl42 hi42
        obtain ⟨rfl, rfl⟩ : e48 = e' ∧ s48 = s' := by rw [hs48] at hq1; simpa using hq1
        obtain ⟨m0, m1, m2, m3, m4, hfm⟩ := five_i (fmA_len n s42)
        rw [hfm]
        refine tl_v rfl (o_move (by conv => lhs; whnf)) ?_
        refine tl_v rfl (o_extract rfl rfl) ?_
        refine tl_v rfl (o_extract rfl rfl) ?_
        refine tl_x rfl (o_alloc z23 rfl) ?_
        rintro _ _ ⟨b10, rfl, rfl⟩
        refine tl_u rfl (o_stUN (l' := ints [m0, m1, m2, m3, m4]) rfl (by repeat (first | with_reducible exact upd_here | with_reducible exact upd_pt | apply upd_left)) sz23 rfl rfl rfl (by show 5 ≤ 5; decide) rfl) ?_
        refine tl_v rfl (o_assign (by conv => lhs; whnf)) ?_
        refine tl_nil ?_
        refine q_then_n ?_
        refine tc_seq ?_
        refine tc_reg ?_
        refine tl_v rfl (o_move (by conv => lhs; whnf)) ?_
        refine tl_v rfl (o_len Try.underlying28 rfl) ?_
        refine tl_c rfl (o_call bd18 rfl (Plan_ok (n := n) (by omega))) ?_
        rintro _ _ ⟨rfl, rfl⟩
        refine tl_v rfl (o_move (by conv => lhs; whnf)) ?_
        refine tl_v rfl (o_extract rfl rfl) ?_
        refine tl_v rfl (o_extract rfl rfl) ?_
        refine tl_x rfl (o_alloc z23 rfl) ?_
        rintro _ _ ⟨b11, rfl, rfl⟩
        refine tl_u rfl (o_stUN (l' := ints [(n : Int), ((128 : Nat) : Int), ((32768 : Nat) : Int), ((32896 : Nat) : Int), (((n - 32896) / 256 : Nat) : Int)]) rfl (by repeat (first | with_reducible exact upd_here | with_reducible exact upd_pt | apply upd_left)) sz23 rfl rfl rfl (by show 5 ≤ 5; decide) rfl) ?_
        refine tl_v rfl (o_assign (by conv => lhs; whnf)) ?_
        refine tl_nil ?_
        refine q_then_n ?_
        refine tc_seq ?_
        refine tc_seq ?_
        refine tc_reg ?_
        refine tl_v rfl (o_move (by conv => lhs; whnf)) ?_
        refine tl_v rfl (o_nei rfl rfl) ?_
        refine tl_nil ?_
        refine q_then_n ?_
        refine tc_cond rfl (fun h => ?_) (fun h => ?_)
        · exfalso; simp at h
        · try simp only [decide_eq_true_eq, decide_eq_false_iff_not, Bool.not_eq_true', Bool.not_eq_false', Option.isNone_some, Option.isNone_none, Bool.not_true, Bool.not_false] at h
          refine tc_skip ?_
          refine q_then_n ?_
          refine tc_seq ?_
          refine tc_seq ?_
          refine tc_reg ?_
          refine tl_v rfl (o_move (by conv => lhs; whnf)) ?_
          refine tl_v rfl (o_eqi rfl rfl) ?_
          refine tl_v rfl (o_move (by conv => lhs; whnf)) ?_
          refine tl_bool (d := 67) rfl (fun h => ?_) (fun h => ?_)
          · obtain rfl : e48 = 0 := by simpa using h
            obtain ⟨_, ho48, hD⟩ := hcase.resolve_right (fun h => by have := h.1; omega)
            have hm : [m0, m1, m2, m3, m4] = [(n : Int), ((128 : Nat) : Int), ((32768 : Nat) : Int), ((32896 : Nat) : Int), (((n - 32896) / 256 : Nat) : Int)] := by rw [← hfm]; exact fmA_0 hs48
            simp only [List.cons.injEq, and_true] at hm
            obtain ⟨rfl, rfl, rfl, rfl, rfl⟩ := hm
            refine tl_v rfl (o_loadN (vs := ints [(n : Int), ((128 : Nat) : Int), ((32768 : Nat) : Int), ((32896 : Nat) : Int), (((n - 32896) / 256 : Nat) : Int)]) a23 sz23 rfl (by repeat (first | with_reducible exact has_here | with_reducible exact has_pt | apply has_left)) (by show 5 ≤ 5; decide) rfl) ?_
            refine tl_v rfl (o_loadN (vs := ints [(n : Int), ((128 : Nat) : Int), ((32768 : Nat) : Int), ((32896 : Nat) : Int), (((n - 32896) / 256 : Nat) : Int)]) a23 sz23 rfl (by repeat (first | with_reducible exact has_here | with_reducible exact has_pt | apply has_left)) (by show 5 ≤ 5; decide) rfl) ?_
            refine tl_v rfl (o_nest (k := 5) (l := [(n : Int), ((128 : Nat) : Int), ((32768 : Nat) : Int), ((32896 : Nat) : Int), (((n - 32896) / 256 : Nat) : Int)]) (m := [(n : Int), ((128 : Nat) : Int), ((32768 : Nat) : Int), ((32896 : Nat) : Int), (((n - 32896) / 256 : Nat) : Int)]) Try.underlying23 (by kernel_rfl) (by kernel_rfl) (by kernel_rfl) rfl rfl rfl rfl) ?_
            refine tl_v rfl (o_pick_t rfl (by conv => lhs; whnf)) ?_
            refine tl_nil ?_
            refine q_then_n ?_
            refine tc_cond rfl (fun h => ?_) (fun h => ?_)
            · exfalso; simp at h
            · try simp only [decide_eq_true_eq, decide_eq_false_iff_not, Bool.not_eq_true', Bool.not_eq_false', Option.isNone_some, Option.isNone_none, Bool.not_true, Bool.not_false] at h
              refine tc_skip ?_
              refine q_then_n ?_
              refine tc_seq ?_
              refine tc_seq ?_
              refine tc_reg ?_
              refine tl_v rfl (o_move (by conv => lhs; whnf)) ?_
              refine tl_v rfl (o_eqi rfl rfl) ?_
              refine tl_v rfl (o_move (by conv => lhs; whnf)) ?_
              refine tl_bool (d := 74) rfl (fun h => ?_) (fun h => ?_)
              · try simp only [decide_eq_true_eq, decide_eq_false_iff_not, Bool.not_eq_true', Bool.not_eq_false', Option.isNone_some, Option.isNone_none, Bool.not_true, Bool.not_false] at h
                refine tl_v rfl (o_move (by conv => lhs; whnf)) ?_
                refine tl_v rfl (o_move (by conv => lhs; whnf)) ?_
                refine tl_c rfl (o_call bd28 rfl (Crash_c (s := s48) (keep := kp) (hr := (by repeat (first | exact hrk | apply Rs.left))) (hk := hkb) (hm := rfl))) ?_
                rintro _ _ ⟨e77, s77, hs77, rfl, rfl⟩
                refine tl_v rfl (o_nei rfl rfl) ?_
                refine tl_v rfl (o_pick_t rfl (by conv => lhs; whnf)) ?_
                refine tl_nil ?_
                refine q_then_n ?_
                refine tc_cond rfl (fun h => ?_) (fun h => ?_)
                · try simp only [decide_eq_true_eq, decide_eq_false_iff_not, Bool.not_eq_true', Bool.not_eq_false', Option.isNone_some, Option.isNone_none, Bool.not_true, Bool.not_false] at h
                  refine tc_seq ?_
                  refine tc_reg ?_
                  refine tl_c rfl (o_call bd24 rfl (works_c)) ?_
                  rintro _ _ ⟨rfl, rfl⟩
                  refine tl_v rfl (o_assign (by conv => lhs; whnf)) ?_
                  refine tl_nil ?_
                  refine q_then_n ?_
                  refine tc_ret ?_
                  refine q_then_r ?_
                  exact ⟨.bool true, A, res1 rfl rfl, Dr.sat (by repeat (first | with_reducible exact dr_refl | apply dr_keep | apply dr_drop)), rfl, rfl⟩
                · obtain rfl : s77 = goesS kp s48 := cr_ok ho48 hs77 (by simpa using h)
                  refine tc_skip ?_
                  refine q_then_n ?_
                  refine tc_seq ?_
                  refine tc_seq ?_
                  refine tc_reg ?_
                  refine tl_v rfl (o_move (by conv => lhs; whnf)) ?_
                  refine tl_c rfl (o_call bd32 rfl (Wake_c)) ?_
                  rintro _ _ ⟨rfl, rfl⟩
                  refine tl_env (d := 82) (v := .int .i64 0) (rfl) ?_
                  refine tl_v rfl (o_nei rfl rfl) ?_
                  refine tl_nil ?_
                  refine q_then_n ?_
                  refine tc_cond rfl (fun h => ?_) (fun h => ?_)
                  · exfalso; simp at h
                  · try simp only [decide_eq_true_eq, decide_eq_false_iff_not, Bool.not_eq_true', Bool.not_eq_false', Option.isNone_some, Option.isNone_none, Bool.not_true, Bool.not_false] at h
                    refine tc_skip ?_
                    refine q_then_n ?_
                    refine tc_seq ?_
                    obtain ⟨s3, hs3⟩ : ∃ s3, s3 = { goesS kp s48 with off := false } := ⟨_, rfl⟩
                    rw [← hs3]
                    have ho3 : s3.off = false := by rw [hs3]
                    have hl3 : s3.ls.length = k := by rw [hs3]; exact (goes_len kp s48).trans hl48
                    have hw3 : WfD s3 := by rw [hs3]; exact wf_off (goesS_wf hw48)
                    have hD3 : DoneI n xs (imgS s3) := by rw [hs3]; exact done_goes hc48 hD
                    have hdr : (imgS s3).drop 192 = xs.drop 192 := hD3.2.1
                    have hi3 : (imgS s3).length = n := hD3.1
                    have hl3n : s3.ls.length * 64 = n := by omega
                    obtain ⟨q0, q1, q2, q3, q4, hq⟩ := five_i (rdA_len s3)
                    obtain ⟨e0, he0⟩ : ∃ e0, e0 = (rdA s3).2 := ⟨_, rfl⟩
                    have hrd : rdA s3 = ([q0, q1, q2, q3, q4], e0) := by rw [← hq, he0]
                    obtain ⟨w6, hw6⟩ : ∃ w6, w6 = (rootA s3).1 := ⟨_, rfl⟩
                    obtain ⟨e6, he6⟩ : ∃ e6, e6 = (rootA s3).2 := ⟨_, rfl⟩
                    have hroot : rootA s3 = (w6, e6) := by rw [hw6, he6]
                    refine tc_reg ?_
                    refine tl_v rfl (o_move (by conv => lhs; whnf)) ?_
                    refine tl_c rfl (o_call bd33 rfl (Image_c (s := s3))) ?_
                    rintro _ _ ⟨a85, c85, rfl, hc85, rfl⟩
                    rw [hl3n] at hc85 ⊢
                    refine tl_v rfl (o_assign (by conv => lhs; whnf)) ?_
                    refine tl_nil ?_
                    refine q_then_n ?_
                    refine tc_seq ?_
                    refine tc_reg ?_
                    refine tl_v rfl (o_move (by conv => lhs; whnf)) ?_
                    refine tl_c rfl (o_call bd48 rfl (Read_5 (s := s3) (by repeat (first | with_reducible exact ct_here | apply ct_left)) hrd)) ?_
                    rintro _ _ ⟨rfl, rfl⟩
                    refine tl_v rfl (o_move (by conv => lhs; whnf)) ?_
                    refine tl_v rfl (o_extract rfl rfl) ?_
                    refine tl_v rfl (o_extract rfl rfl) ?_
                    refine tl_x rfl (o_alloc z23 rfl) ?_
                    rintro _ _ ⟨b14, rfl, rfl⟩
                    refine tl_u rfl (o_stUN (l' := ints [q0, q1, q2, q3, q4]) rfl (by repeat (first | with_reducible exact upd_here | with_reducible exact upd_pt | apply upd_left)) sz23 rfl rfl rfl (by show 5 ≤ 5; decide) rfl) ?_
                    refine tl_v rfl (o_assign (by conv => lhs; whnf)) ?_
                    refine tl_nil ?_
                    refine q_then_n ?_
                    refine tc_seq ?_
                    refine tc_reg ?_
                    refine tl_v rfl (o_move (by conv => lhs; whnf)) ?_
                    refine tl_c rfl (o_call bd67 rfl (Root_5 (s := s3) (by repeat (first | with_reducible exact ct_here | apply ct_left)) hroot)) ?_
                    rintro _ _ ⟨rfl, rfl⟩
                    refine tl_v rfl (o_move (by conv => lhs; whnf)) ?_
                    refine tl_v rfl (o_extract rfl rfl) ?_
                    refine tl_v rfl (o_extract rfl rfl) ?_
                    refine tl_v rfl (o_assign (by conv => lhs; whnf)) ?_
                    refine tl_v rfl (o_assign (by conv => lhs; whnf)) ?_
                    refine tl_nil ?_
                    refine q_then_n ?_
                    refine tc_seq ?_
                    refine tc_seq ?_
                    refine tc_regq mo (by kernel_rfl) ?_
                    refine ql_v rfl (o_move (by conv => lhs; whnf)) ?_
                    refine ql_v rfl (o_len Try.underlying28 rfl) ?_
                    refine ql_v rfl (o_move (by conv => lhs; whnf)) ?_
                    refine ql_v rfl (o_len Try.underlying28 rfl) ?_
                    refine ql_v rfl (o_nei rfl rfl) ?_
                    refine ql_v rfl (o_move (by conv => lhs; whnf)) ?_
                    refine ql_bool (d := 101) rfl (fun h => ?_) (fun h => ?_)
                    · exfalso; simp at h
                    · try simp only [decide_eq_true_eq, decide_eq_false_iff_not, Bool.not_eq_true', Bool.not_eq_false', Option.isNone_some, Option.isNone_none, Bool.not_true, Bool.not_false] at h
                      refine ql_v rfl (o_move (by conv => lhs; whnf)) ?_
                      refine ql_v rfl (o_slice (l := 192) Try.underlying28 sz5 rfl (bnd_nat rfl) bnd_none (by omega) (by omega)) ?_
                      refine ql_v rfl (o_move (by conv => lhs; whnf)) ?_
                      refine ql_v rfl (o_slice (l := 192) Try.underlying28 sz5 rfl (bnd_nat rfl) bnd_none (by omega) (by omega)) ?_
                      refine ql_c rfl (fun w => exec_call bd22 rfl) (EqBytes_c (xs := (imgS s3).drop 192) (ys := xs.drop 192) (h1 := rs_cutC (by repeat (first | with_reducible exact rs_sl | apply Rs.left)) (by omega)) (h2 := rs_cutC (by repeat (first | with_reducible exact rs_sl | apply Rs.left)) (by omega)) (hx := by rw [List.length_drop]; omega) (hy := by rw [List.length_drop]; omega)) ?_
                      refine ql_env (d := 106) (v := .bool true) (congrArg Value.bool (decide_eq_true hdr)) ?_
                      refine ql_v rfl (o_not rfl) ?_
                      refine ql_v rfl (o_pick_f rfl (by conv => lhs; whnf)) ?_
                      refine ql_nil ?_
                      refine q_then_n ?_
                      refine tc_cond rfl (fun h => ?_) (fun h => ?_)
                      · exfalso; simp at h
                      · try simp only [decide_eq_true_eq, decide_eq_false_iff_not, Bool.not_eq_true', Bool.not_eq_false', Option.isNone_some, Option.isNone_none, Bool.not_true, Bool.not_false] at h
                        refine tc_skip ?_
                        refine q_then_n ?_
                        refine tc_seq ?_
                        refine tc_seq ?_
                        refine tc_reg ?_
                        refine tl_v rfl (o_move (by conv => lhs; whnf)) ?_
                        refine tl_v rfl (o_eqi rfl rfl) ?_
                        refine tl_nil ?_
                        refine q_then_n ?_
                        refine tc_cond rfl (fun h => ?_) (fun h => ?_)
                        · obtain ⟨hx1, hx2⟩ : [q0, q1, q2, q3, q4] = [(n : Int), ((128 : Nat) : Int), ((32768 : Nat) : Int), ((32896 : Nat) : Int), (((n - 32896) / 256 : Nat) : Int)] ∧ e0 = 0 := by have := (rd_is hk hn ho3 hl3).trans (rdT_t hD3.2.2.1); rw [hrd] at this; simpa using this
                          simp only [List.cons.injEq, and_true] at hx1
                          obtain ⟨rfl, rfl, rfl, rfl, rfl⟩ := hx1
                          obtain ⟨hx3, hx4⟩ : w6 = 0 ∧ e6 = 0 := by have := root_t hk hn ho3 hl3 hD3.2.2.1 hD3.2.2.2; rw [hroot] at this; simpa using this
                          subst hx2 hx3 hx4
                          refine tc_seq ?_
                          refine tc_reg ?_
                          refine tl_v rfl (o_move (by conv => lhs; whnf)) ?_
                          refine tl_v rfl (o_eqi rfl rfl) ?_
                          refine tl_v rfl (o_move (by conv => lhs; whnf)) ?_
                          refine tl_bool (d := 113) rfl (fun h => ?_) (fun h => ?_)
                          · try simp only [decide_eq_true_eq, decide_eq_false_iff_not, Bool.not_eq_true', Bool.not_eq_false', Option.isNone_some, Option.isNone_none, Bool.not_true, Bool.not_false] at h
                            refine tl_v rfl (o_loadN (vs := ints [(n : Int), ((128 : Nat) : Int), ((32768 : Nat) : Int), ((32896 : Nat) : Int), (((n - 32896) / 256 : Nat) : Int)]) a23 sz23 rfl (by repeat (first | with_reducible exact has_here | with_reducible exact has_pt | apply has_left)) (by show 5 ≤ 5; decide) rfl) ?_
                            refine tl_v rfl (o_loadN (vs := ints [(n : Int), ((128 : Nat) : Int), ((32768 : Nat) : Int), ((32896 : Nat) : Int), (((n - 32896) / 256 : Nat) : Int)]) a23 sz23 rfl (by repeat (first | with_reducible exact has_here | with_reducible exact has_pt | apply has_left)) (by show 5 ≤ 5; decide) rfl) ?_
                            refine tl_v rfl (o_eqst (k := 5) (l := [(n : Int), ((128 : Nat) : Int), ((32768 : Nat) : Int), ((32896 : Nat) : Int), (((n - 32896) / 256 : Nat) : Int)]) (m := [(n : Int), ((128 : Nat) : Int), ((32768 : Nat) : Int), ((32896 : Nat) : Int), (((n - 32896) / 256 : Nat) : Int)]) Try.underlying23 (by kernel_rfl) (by kernel_rfl) (by kernel_rfl) rfl rfl rfl rfl) ?_
                            refine tl_v rfl (o_pick_t rfl (by conv => lhs; whnf)) ?_
                            refine tl_v rfl (o_move (by conv => lhs; whnf)) ?_
                            refine tl_bool (d := 118) rfl (fun h => ?_) (fun h => ?_)
                            · try simp only [decide_eq_true_eq, decide_eq_false_iff_not, Bool.not_eq_true', Bool.not_eq_false', Option.isNone_some, Option.isNone_none, Bool.not_true, Bool.not_false] at h
                              refine tl_v rfl (o_move (by conv => lhs; whnf)) ?_
                              refine tl_v rfl (o_eqi rfl rfl) ?_
                              refine tl_v rfl (o_pick_t rfl (by conv => lhs; whnf)) ?_
                              refine tl_v rfl (o_move (by conv => lhs; whnf)) ?_
                              refine tl_bool (d := 122) rfl (fun h => ?_) (fun h => ?_)
                              · try simp only [decide_eq_true_eq, decide_eq_false_iff_not, Bool.not_eq_true', Bool.not_eq_false', Option.isNone_some, Option.isNone_none, Bool.not_true, Bool.not_false] at h
                                refine tl_v rfl (o_move (by conv => lhs; whnf)) ?_
                                refine tl_v rfl (o_eqi rfl rfl) ?_
                                refine tl_v rfl (o_pick_t rfl (by conv => lhs; whnf)) ?_
                                refine tl_v rfl (o_move (by conv => lhs; whnf)) ?_
                                refine tl_bool (d := 126) rfl (fun h => ?_) (fun h => ?_)
                                · try simp only [decide_eq_true_eq, decide_eq_false_iff_not, Bool.not_eq_true', Bool.not_eq_false', Option.isNone_some, Option.isNone_none, Bool.not_true, Bool.not_false] at h
                                  refine tl_v rfl (o_move (by conv => lhs; whnf)) ?_
                                  refine tl_v rfl (o_slice (l := 64) (h := 192) Try.underlying28 sz5 rfl (bnd_nat rfl) (bnd_nat rfl) (by omega) (by omega)) ?_
                                  refine tl_c rfl (o_call bd76 rfl (zero_c (xs := ((imgS s3).drop 64).take 128) (hr := rs_mid (by repeat (first | with_reducible exact rs_sl | apply Rs.left)) (by omega)) (hm := by rw [List.length_take, List.length_drop]; omega))) ?_
                                  rintro _ _ ⟨rfl, rfl⟩
                                  refine tl_env (d := 129) (v := .bool true) (congrArg Value.bool (show decide (∀ x ∈ ((imgS s3).drop 64).take 128, x = 0) = true by rw [hD3.2.2.2]; exact zero_rep)) ?_
                                  refine tl_v rfl (o_pick_t rfl (by conv => lhs; whnf)) ?_
                                  refine tl_v rfl (o_move (by conv => lhs; whnf)) ?_
                                  refine tl_bool (d := 131) rfl (fun h => ?_) (fun h => ?_)
                                  · try simp only [decide_eq_true_eq, decide_eq_false_iff_not, Bool.not_eq_true', Bool.not_eq_false', Option.isNone_some, Option.isNone_none, Bool.not_true, Bool.not_false] at h
                                    refine tl_c rfl (o_call bd24 rfl (works_c)) ?_
                                    rintro _ _ ⟨rfl, rfl⟩
                                    refine tl_v rfl (o_pick_t rfl (by conv => lhs; whnf)) ?_
                                    refine tl_v rfl (o_assign (by conv => lhs; whnf)) ?_
                                    refine tl_nil ?_
                                    refine q_then_n ?_
                                    refine tc_ret ?_
                                    refine q_then_r ?_
                                    exact ⟨.bool true, A, res1 rfl rfl, Dr.sat (by repeat (first | with_reducible exact dr_refl | apply dr_keep | apply dr_drop)), rfl, rfl⟩
                                  · (exfalso; first | (revert h; simp; done) | (simp at h; done) | (revert h; simp; omega) | (simp at h; omega) | omega)
                                · (exfalso; first | (revert h; simp; done) | (simp at h; done) | (revert h; simp; omega) | (simp at h; omega) | omega)
                              · (exfalso; first | (revert h; simp; done) | (simp at h; done) | (revert h; simp; omega) | (simp at h; omega) | omega)
                            · (exfalso; first | (revert h; simp; done) | (simp at h; done) | (revert h; simp; omega) | (simp at h; omega) | omega)
                          · (exfalso; first | (revert h; simp; done) | (simp at h; done) | (revert h; simp; omega) | (simp at h; omega) | omega)
                        · exfalso; simp at h
              · (exfalso; first | (revert h; simp; done) | (simp at h; done) | (revert h; simp; omega) | (simp at h; omega) | omega)
          · have hne : e48 ≠ 0 := by simpa using h
            obtain ⟨rfl, ho48, hL⟩ := hcase.resolve_left (fun h => hne h.1)
            refine tl_skip rfl ?_
            refine tl_skip rfl ?_
            refine tl_skip rfl ?_
            refine tl_v rfl (o_pick_f rfl (by conv => lhs; whnf)) ?_
            refine tl_nil ?_
            refine q_then_n ?_
            refine tc_cond_f rfl ?_
            refine tc_skip ?_
            refine q_then_n ?_
            refine tc_seq ?_
            refine tc_seq ?_
            refine tc_reg ?_
            refine tl_v rfl (o_move (by conv => lhs; whnf)) ?_
            refine tl_v rfl (o_eqi rfl rfl) ?_
            refine tl_v rfl (o_move (by conv => lhs; whnf)) ?_
            refine tl_bool (d := 74) rfl (fun h => ?_) (fun h => ?_)
            · (exfalso; first | (revert h; simp; done) | (simp at h; done) | (revert h; simp; omega) | (simp at h; omega) | omega)
            · try simp only [decide_eq_true_eq, decide_eq_false_iff_not, Bool.not_eq_true', Bool.not_eq_false', Option.isNone_some, Option.isNone_none, Bool.not_true, Bool.not_false] at h
              refine tl_skip rfl ?_
              refine tl_skip rfl ?_
              refine tl_skip rfl ?_
              refine tl_skip rfl ?_
              refine tl_v rfl (o_pick_f rfl (by conv => lhs; whnf)) ?_
              refine tl_nil ?_
              refine q_then_n ?_
              refine tc_cond_f rfl ?_
              refine tc_skip ?_
              refine q_then_n ?_
              refine tc_seq ?_
              refine tc_seq ?_
              refine tc_reg ?_
              refine tl_v rfl (o_move (by conv => lhs; whnf)) ?_
              refine tl_c rfl (o_call bd32 rfl (Wake_c)) ?_
              rintro _ _ ⟨rfl, rfl⟩
              refine tl_env (d := 82) (v := .int .i64 0) (by rw [ho48]; rfl) ?_
              refine tl_v rfl (o_nei rfl rfl) ?_
              refine tl_nil ?_
              refine q_then_n ?_
              refine tc_cond rfl (fun h => ?_) (fun h => ?_)
              · exfalso; simp at h
              · try simp only [decide_eq_true_eq, decide_eq_false_iff_not, Bool.not_eq_true', Bool.not_eq_false', Option.isNone_some, Option.isNone_none, Bool.not_true, Bool.not_false] at h
                refine tc_skip ?_
                refine q_then_n ?_
                refine tc_seq ?_
                obtain ⟨s3, hs3⟩ : ∃ s3, s3 = { s48 with off := false } := ⟨_, rfl⟩
                rw [← hs3]
                have ho3 : s3.off = false := by rw [hs3]
                have hl3 : s3.ls.length = k := by rw [hs3]; exact hl48
                have hw3 : WfD s3 := by rw [hs3]; exact wf_off hw48
                have hL3 : LostI n xs (imgS s3) := by rw [hs3]; exact lost_off hL
                have hdr : (imgS s3).drop 192 = xs.drop 192 := hL3.2.1
                have hi3 : (imgS s3).length = n := hL3.1
                have hl3n : s3.ls.length * 64 = n := by omega
                obtain ⟨q0, q1, q2, q3, q4, hq⟩ := five_i (rdA_len s3)
                obtain ⟨e0, he0⟩ : ∃ e0, e0 = (rdA s3).2 := ⟨_, rfl⟩
                have hrd : rdA s3 = ([q0, q1, q2, q3, q4], e0) := by rw [← hq, he0]
                obtain ⟨w6, hw6⟩ : ∃ w6, w6 = (rootA s3).1 := ⟨_, rfl⟩
                obtain ⟨e6, he6⟩ : ∃ e6, e6 = (rootA s3).2 := ⟨_, rfl⟩
                have hroot : rootA s3 = (w6, e6) := by rw [hw6, he6]
                refine tc_reg ?_
                refine tl_v rfl (o_move (by conv => lhs; whnf)) ?_
                refine tl_c rfl (o_call bd33 rfl (Image_c (s := s3))) ?_
                rintro _ _ ⟨a85, c85, rfl, hc85, rfl⟩
                rw [hl3n] at hc85 ⊢
                refine tl_v rfl (o_assign (by conv => lhs; whnf)) ?_
                refine tl_nil ?_
                refine q_then_n ?_
                refine tc_seq ?_
                refine tc_reg ?_
                refine tl_v rfl (o_move (by conv => lhs; whnf)) ?_
                refine tl_c rfl (o_call bd48 rfl (Read_5 (s := s3) (by repeat (first | with_reducible exact ct_here | apply ct_left)) hrd)) ?_
                rintro _ _ ⟨rfl, rfl⟩
                refine tl_v rfl (o_move (by conv => lhs; whnf)) ?_
                refine tl_v rfl (o_extract rfl rfl) ?_
                refine tl_v rfl (o_extract rfl rfl) ?_
                refine tl_x rfl (o_alloc z23 rfl) ?_
                rintro _ _ ⟨b14, rfl, rfl⟩
                refine tl_u rfl (o_stUN (l' := ints [q0, q1, q2, q3, q4]) rfl (by repeat (first | with_reducible exact upd_here | with_reducible exact upd_pt | apply upd_left)) sz23 rfl rfl rfl (by show 5 ≤ 5; decide) rfl) ?_
                refine tl_v rfl (o_assign (by conv => lhs; whnf)) ?_
                refine tl_nil ?_
                refine q_then_n ?_
                refine tc_seq ?_
                refine tc_reg ?_
                refine tl_v rfl (o_move (by conv => lhs; whnf)) ?_
                refine tl_c rfl (o_call bd67 rfl (Root_5 (s := s3) (by repeat (first | with_reducible exact ct_here | apply ct_left)) hroot)) ?_
                rintro _ _ ⟨rfl, rfl⟩
                refine tl_v rfl (o_move (by conv => lhs; whnf)) ?_
                refine tl_v rfl (o_extract rfl rfl) ?_
                refine tl_v rfl (o_extract rfl rfl) ?_
                refine tl_v rfl (o_assign (by conv => lhs; whnf)) ?_
                refine tl_v rfl (o_assign (by conv => lhs; whnf)) ?_
                refine tl_nil ?_
                refine q_then_n ?_
                refine tc_seq ?_
                refine tc_seq ?_
                refine tc_regq mo (by kernel_rfl) ?_
                refine ql_v rfl (o_move (by conv => lhs; whnf)) ?_
                refine ql_v rfl (o_len Try.underlying28 rfl) ?_
                refine ql_v rfl (o_move (by conv => lhs; whnf)) ?_
                refine ql_v rfl (o_len Try.underlying28 rfl) ?_
                refine ql_v rfl (o_nei rfl rfl) ?_
                refine ql_v rfl (o_move (by conv => lhs; whnf)) ?_
                refine ql_bool (d := 101) rfl (fun h => ?_) (fun h => ?_)
                · exfalso; simp at h
                · try simp only [decide_eq_true_eq, decide_eq_false_iff_not, Bool.not_eq_true', Bool.not_eq_false', Option.isNone_some, Option.isNone_none, Bool.not_true, Bool.not_false] at h
                  refine ql_v rfl (o_move (by conv => lhs; whnf)) ?_
                  refine ql_v rfl (o_slice (l := 192) Try.underlying28 sz5 rfl (bnd_nat rfl) bnd_none (by omega) (by omega)) ?_
                  refine ql_v rfl (o_move (by conv => lhs; whnf)) ?_
                  refine ql_v rfl (o_slice (l := 192) Try.underlying28 sz5 rfl (bnd_nat rfl) bnd_none (by omega) (by omega)) ?_
                  refine ql_c rfl (fun w => exec_call bd22 rfl) (EqBytes_c (xs := (imgS s3).drop 192) (ys := xs.drop 192) (h1 := rs_cutC (by repeat (first | with_reducible exact rs_sl | apply Rs.left)) (by omega)) (h2 := rs_cutC (by repeat (first | with_reducible exact rs_sl | apply Rs.left)) (by omega)) (hx := by rw [List.length_drop]; omega) (hy := by rw [List.length_drop]; omega)) ?_
                  refine ql_env (d := 106) (v := .bool true) (congrArg Value.bool (decide_eq_true hdr)) ?_
                  refine ql_v rfl (o_not rfl) ?_
                  refine ql_v rfl (o_pick_f rfl (by conv => lhs; whnf)) ?_
                  refine ql_nil ?_
                  refine q_then_n ?_
                  refine tc_cond rfl (fun h => ?_) (fun h => ?_)
                  · exfalso; simp at h
                  · try simp only [decide_eq_true_eq, decide_eq_false_iff_not, Bool.not_eq_true', Bool.not_eq_false', Option.isNone_some, Option.isNone_none, Bool.not_true, Bool.not_false] at h
                    refine tc_skip ?_
                    refine q_then_n ?_
                    refine tc_seq ?_
                    refine tc_seq ?_
                    refine tc_reg ?_
                    refine tl_v rfl (o_move (by conv => lhs; whnf)) ?_
                    refine tl_v rfl (o_eqi rfl rfl) ?_
                    refine tl_nil ?_
                    refine q_then_n ?_
                    refine tc_cond rfl (fun h => ?_) (fun h => ?_)
                    · exfalso; simp at h
                    · try simp only [decide_eq_true_eq, decide_eq_false_iff_not, Bool.not_eq_true', Bool.not_eq_false', Option.isNone_some, Option.isNone_none, Bool.not_true, Bool.not_false] at h
                      refine tc_skip ?_
                      refine q_then_n ?_
                      refine tc_seq ?_
                      refine tc_regq mo (by kernel_rfl) ?_
                      refine ql_v rfl (o_move (by conv => lhs; whnf)) ?_
                      refine ql_v rfl (o_slice (h := 192) Try.underlying28 sz5 rfl bnd_none (bnd_nat rfl) (by omega) (by omega)) ?_
                      refine ql_env (d := 135) (v := .slice a85 192 c85) (by show Value.slice (cutAddr a85 c85 0 1) (192 - 0) (c85 - 0) = _; rw [cut_none]; rfl) ?_
                      refine ql_v rfl (o_move (by conv => lhs; whnf)) ?_
                      refine ql_v rfl (o_slice (h := 192) Try.underlying28 sz5 rfl bnd_none (bnd_nat rfl) (by omega) (by omega)) ?_
                      refine ql_env (d := 137) (v := .slice a20 192 c20) (by show Value.slice (cutAddr a20 c20 0 1) (192 - 0) (c20 - 0) = _; rw [cut_none]; rfl) ?_
                      refine ql_c rfl (fun w => exec_call bd22 rfl) (EqBytes_c (xs := (imgS s3).take 192) (ys := xs.take 192) (h1 := by rw [← bys_take]; exact Rs.sub (by repeat (first | with_reducible exact rs_sl | apply Rs.left)) _) (h2 := by rw [← bys_take]; exact Rs.sub (by repeat (first | with_reducible exact rs_sl | apply Rs.left)) _) (hx := by rw [List.length_take]; omega) (hy := by rw [List.length_take]; omega)) ?_
                      refine ql_v rfl (o_assign (by conv => lhs; whnf)) ?_
                      refine ql_nil ?_
                      refine q_then_n ?_
                      refine tc_seq ?_
                      have hfin := lost_rd hk hn ho3 hl3 hL3
                      rw [hrd, hroot] at hfin
                      refine tc_reg ?_
                      refine tl_v rfl (o_move (by conv => lhs; whnf)) ?_
                      refine tl_v rfl (o_eqi rfl rfl) ?_
                      refine tl_v rfl (o_move (by conv => lhs; whnf)) ?_
                      refine tl_bool (d := 141) rfl (fun h => ?_) (fun h => ?_)
                      · try simp only [decide_eq_true_eq, decide_eq_false_iff_not, Bool.not_eq_true', Bool.not_eq_false', Option.isNone_some, Option.isNone_none, Bool.not_true, Bool.not_false] at h
                        refine tl_v rfl (o_move (by conv => lhs; whnf)) ?_
                        refine tl_v rfl (o_move (by conv => lhs; whnf)) ?_
                        refine tl_bool (d := 143) rfl (fun h => ?_) (fun h => ?_)
                        · try simp only [decide_eq_true_eq, decide_eq_false_iff_not, Bool.not_eq_true', Bool.not_eq_false', Option.isNone_some, Option.isNone_none, Bool.not_true, Bool.not_false] at h
                          refine tl_skip rfl ?_
                          refine tl_skip rfl ?_
                          refine tl_skip rfl ?_
                          refine tl_skip rfl ?_
                          refine tl_skip rfl ?_
                          refine tl_skip rfl ?_
                          refine tl_v rfl (o_pick_t rfl (by conv => lhs; whnf)) ?_
                          refine tl_v rfl (o_move (by conv => lhs; whnf)) ?_
                          refine tl_skip rfl ?_
                          refine tl_skip rfl ?_
                          refine tl_skip rfl ?_
                          refine tl_skip rfl ?_
                          refine tl_skip rfl ?_
                          refine tl_skip rfl ?_
                          refine tl_skip rfl ?_
                          refine tl_skip rfl ?_
                          refine tl_skip rfl ?_
                          refine tl_skip rfl ?_
                          refine tl_skip rfl ?_
                          refine tl_skip rfl ?_
                          refine tl_skip rfl ?_
                          refine tl_skip rfl ?_
                          refine tl_skip rfl ?_
                          refine tl_skip rfl ?_
                          refine tl_v rfl (o_pick_t rfl (by conv => lhs; whnf)) ?_
                          refine tl_v rfl (o_pick_t rfl (by conv => lhs; whnf)) ?_
                          refine tl_v rfl (o_move (by conv => lhs; whnf)) ?_
                          refine tl_c rfl (o_call bd24 rfl (works_c)) ?_
                          rintro _ _ ⟨rfl, rfl⟩
                          refine tl_v rfl (o_pick_t rfl (by conv => lhs; whnf)) ?_
                          refine tl_v rfl (o_assign (by conv => lhs; whnf)) ?_
                          refine tl_nil ?_
                          refine q_then_n ?_
                          refine tc_ret ?_
                          exact ⟨.bool true, A, res1 rfl rfl, Dr.sat (by repeat (first | with_reducible exact dr_refl | apply dr_keep | apply dr_drop)), rfl, rfl⟩
                        · have hfin := hfin.resolve_left (by simpa using h)
                          simp only [Prod.mk.injEq] at hfin
                          refine tl_v rfl (o_move (by conv => lhs; whnf)) ?_
                          refine tl_v rfl (o_eqi rfl rfl) ?_
                          refine tl_v rfl (o_move (by conv => lhs; whnf)) ?_
                          refine tl_bool (d := 146) rfl (fun h => ?_) (fun h => ?_)
                          · have he0v : e0 = 100 := by simpa using h
                            have he6v : e6 = 100 := by rcases hfin with h | h <;> omega
                            subst he6v
                            refine tl_v rfl (o_move (by conv => lhs; whnf)) ?_
                            refine tl_v rfl (o_eqi rfl rfl) ?_
                            refine tl_v rfl (o_pick_t rfl (by conv => lhs; whnf)) ?_
                            refine tl_v rfl (o_pick_f rfl (by conv => lhs; whnf)) ?_
                            refine tl_v rfl (o_move (by conv => lhs; whnf)) ?_
                            refine tl_bool (d := 151) rfl (fun h => ?_) (fun h => ?_)
                            · try simp only [decide_eq_true_eq, decide_eq_false_iff_not, Bool.not_eq_true', Bool.not_eq_false', Option.isNone_some, Option.isNone_none, Bool.not_true, Bool.not_false] at h
                              refine tl_skip rfl ?_
                              refine tl_skip rfl ?_
                              refine tl_skip rfl ?_
                              refine tl_skip rfl ?_
                              refine tl_skip rfl ?_
                              refine tl_skip rfl ?_
                              refine tl_skip rfl ?_
                              refine tl_skip rfl ?_
                              refine tl_skip rfl ?_
                              refine tl_skip rfl ?_
                              refine tl_skip rfl ?_
                              refine tl_skip rfl ?_
                              refine tl_skip rfl ?_
                              refine tl_skip rfl ?_
                              refine tl_skip rfl ?_
                              refine tl_skip rfl ?_
                              refine tl_v rfl (o_pick_t rfl (by conv => lhs; whnf)) ?_
                              refine tl_v rfl (o_pick_t rfl (by conv => lhs; whnf)) ?_
                              refine tl_v rfl (o_move (by conv => lhs; whnf)) ?_
                              refine tl_c rfl (o_call bd24 rfl (works_c)) ?_
                              rintro _ _ ⟨rfl, rfl⟩
                              refine tl_v rfl (o_pick_t rfl (by conv => lhs; whnf)) ?_
                              refine tl_v rfl (o_assign (by conv => lhs; whnf)) ?_
                              refine tl_nil ?_
                              refine q_then_n ?_
                              refine tc_ret ?_
                              exact ⟨.bool true, A, res1 rfl rfl, Dr.sat (by repeat (first | with_reducible exact dr_refl | apply dr_keep | apply dr_drop)), rfl, rfl⟩
                            · exfalso; simp at h
                          · have he0v : e0 ≠ 100 := by simpa using h
                            obtain ⟨⟨hx1, hx2⟩, ⟨hx3, hx4⟩, hx5⟩ := hfin.resolve_left (fun h => he0v h.1.2)
                            simp only [List.cons.injEq, and_true] at hx1
                            obtain ⟨rfl, rfl, rfl, rfl, rfl⟩ := hx1
                            subst hx2 hx3 hx4
                            refine tl_skip rfl ?_
                            refine tl_skip rfl ?_
                            refine tl_v rfl (o_pick_f rfl (by conv => lhs; whnf)) ?_
                            refine tl_v rfl (o_pick_f rfl (by conv => lhs; whnf)) ?_
                            refine tl_v rfl (o_move (by conv => lhs; whnf)) ?_
                            refine tl_v rfl (o_move (by conv => lhs; whnf)) ?_
                            refine tl_v rfl (o_eqi rfl rfl) ?_
                            refine tl_v rfl (o_move (by conv => lhs; whnf)) ?_
                            refine tl_bool (d := 154) rfl (fun h => ?_) (fun h => ?_)
                            · try simp only [decide_eq_true_eq, decide_eq_false_iff_not, Bool.not_eq_true', Bool.not_eq_false', Option.isNone_some, Option.isNone_none, Bool.not_true, Bool.not_false] at h
                              refine tl_v rfl (o_loadN (vs := ints [(n : Int), ((128 : Nat) : Int), ((32768 : Nat) : Int), ((32896 : Nat) : Int), (((n - 32896) / 256 : Nat) : Int)]) a23 sz23 rfl (by repeat (first | with_reducible exact has_here | with_reducible exact has_pt | apply has_left)) (by show 5 ≤ 5; decide) rfl) ?_
                              refine tl_v rfl (o_loadN (vs := ints [(n : Int), ((128 : Nat) : Int), ((32768 : Nat) : Int), ((32896 : Nat) : Int), (((n - 32896) / 256 : Nat) : Int)]) a23 sz23 rfl (by repeat (first | with_reducible exact has_here | with_reducible exact has_pt | apply has_left)) (by show 5 ≤ 5; decide) rfl) ?_
                              refine tl_v rfl (o_eqst (k := 5) (l := [(n : Int), ((128 : Nat) : Int), ((32768 : Nat) : Int), ((32896 : Nat) : Int), (((n - 32896) / 256 : Nat) : Int)]) (m := [(n : Int), ((128 : Nat) : Int), ((32768 : Nat) : Int), ((32896 : Nat) : Int), (((n - 32896) / 256 : Nat) : Int)]) Try.underlying23 (by kernel_rfl) (by kernel_rfl) (by kernel_rfl) rfl rfl rfl rfl) ?_
                              refine tl_v rfl (o_pick_t rfl (by conv => lhs; whnf)) ?_
                              refine tl_v rfl (o_move (by conv => lhs; whnf)) ?_
                              refine tl_bool (d := 159) rfl (fun h => ?_) (fun h => ?_)
                              · try simp only [decide_eq_true_eq, decide_eq_false_iff_not, Bool.not_eq_true', Bool.not_eq_false', Option.isNone_some, Option.isNone_none, Bool.not_true, Bool.not_false] at h
                                refine tl_v rfl (o_move (by conv => lhs; whnf)) ?_
                                refine tl_v rfl (o_eqi rfl rfl) ?_
                                refine tl_v rfl (o_pick_t rfl (by conv => lhs; whnf)) ?_
                                refine tl_v rfl (o_move (by conv => lhs; whnf)) ?_
                                refine tl_bool (d := 163) rfl (fun h => ?_) (fun h => ?_)
                                · try simp only [decide_eq_true_eq, decide_eq_false_iff_not, Bool.not_eq_true', Bool.not_eq_false', Option.isNone_some, Option.isNone_none, Bool.not_true, Bool.not_false] at h
                                  refine tl_v rfl (o_move (by conv => lhs; whnf)) ?_
                                  refine tl_v rfl (o_slice (l := 64) (h := 192) Try.underlying28 sz5 rfl (bnd_nat rfl) (bnd_nat rfl) (by omega) (by omega)) ?_
                                  refine tl_c rfl (o_call bd76 rfl (zero_c (xs := ((imgS s3).drop 64).take 128) (hr := rs_mid (by repeat (first | with_reducible exact rs_sl | apply Rs.left)) (by omega)) (hm := by rw [List.length_take, List.length_drop]; omega))) ?_
                                  rintro _ _ ⟨rfl, rfl⟩
                                  refine tl_env (d := 166) (v := .bool true) (congrArg Value.bool (show decide (∀ x ∈ ((imgS s3).drop 64).take 128, x = 0) = true by rw [hx5]; exact zero_rep)) ?_
                                  refine tl_v rfl (o_pick_t rfl (by conv => lhs; whnf)) ?_
                                  refine tl_v rfl (o_pick_f rfl (by conv => lhs; whnf)) ?_
                                  refine tl_v rfl (o_pick_t rfl (by conv => lhs; whnf)) ?_
                                  refine tl_v rfl (o_move (by conv => lhs; whnf)) ?_
                                  refine tl_bool (d := 170) rfl (fun h => ?_) (fun h => ?_)
                                  · try simp only [decide_eq_true_eq, decide_eq_false_iff_not, Bool.not_eq_true', Bool.not_eq_false', Option.isNone_some, Option.isNone_none, Bool.not_true, Bool.not_false] at h
                                    refine tl_c rfl (o_call bd24 rfl (works_c)) ?_
                                    rintro _ _ ⟨rfl, rfl⟩
                                    refine tl_v rfl (o_pick_t rfl (by conv => lhs; whnf)) ?_
                                    refine tl_v rfl (o_assign (by conv => lhs; whnf)) ?_
                                    refine tl_nil ?_
                                    refine q_then_n ?_
                                    refine tc_ret ?_
                                    exact ⟨.bool true, A, res1 rfl rfl, Dr.sat (by repeat (first | with_reducible exact dr_refl | apply dr_keep | apply dr_drop)), rfl, rfl⟩
                                  · (exfalso; first | (revert h; simp; done) | (simp at h; done) | (revert h; simp; omega) | (simp at h; omega) | omega)
                                · (exfalso; first | (revert h; simp; done) | (simp at h; done) | (revert h; simp; omega) | (simp at h; omega) | omega)
                              · (exfalso; first | (revert h; simp; done) | (simp at h; done) | (revert h; simp; omega) | (simp at h; omega) | omega)
                            · (exfalso; first | (revert h; simp; done) | (simp at h; done) | (revert h; simp; omega) | (simp at h; omega) | omega)
                      · (exfalso; first | (revert h; simp; done) | (simp at h; done) | (revert h; simp; omega) | (simp at h; omega) | omega)
    · obtain ⟨s42, hs42q⟩ : ∃ s, s = fromS k xs := ⟨_, rfl⟩
      rw [← hs42q]
      have ha0 : s42.off = false ∧ s42.ls = (fromS k xs).ls := by rw [hs42q]; exact ⟨(from_live k xs).1, rfl⟩
      refine tl_skip rfl ?_
      refine tl_skip rfl ?_
      refine tl_v rfl (o_pick_f rfl (by conv => lhs; whnf)) ?_
      refine tl_v rfl (o_move (by conv => lhs; whnf)) ?_
      refine tl_skip rfl ?_
      refine tl_skip rfl ?_
      refine tl_skip rfl ?_
      refine tl_skip rfl ?_
      refine tl_skip rfl ?_
      refine tl_skip rfl ?_
      refine tl_skip rfl ?_
      refine tl_v rfl (o_pick_f rfl (by conv => lhs; whnf)) ?_
      refine tl_nil ?_
      refine q_then_n ?_
      refine tc_cond_f rfl ?_
      refine tc_skip ?_
      refine q_then_n ?_
      refine tc_seq ?_
      have hs42 : s42.off = false ∧ s42.ls = (fromS k xs).ls := by first | exact ha0 | exact armS_cases (from_live k xs).1 (from_live k xs).2 hs42 (by simpa using h)
      have hl42 : s42.ls.length = k := by rw [hs42.2]; exact from_lslen k xs
      have hc42 : Cln s42 := fun l hl => by rw [hs42.2] at hl; exact cln_from k xs l hl
      have hi42 : imgS s42 = xs := (img_ls hs42.2).trans (img_from hxb (by omega))
      refine tc_reg ?_
      refine tl_v rfl (o_move (by conv => lhs; whnf)) ?_
      refine tl_have (fun _ _ h => ct_wf2 (d := d24) (s := s42) (by repeat (first | with_reducible exact ct_here | apply ct_left)) h) fun hw42 => ?_
      refine tl_c rfl (o_call bd75 rfl (Format_ok (s := s42) (n := n) (hoff := hs42.1) (hlen := by omega) (hn := by omega) (hroom := room_le (cln_room hc42) (by decide)))) ?_
      rintro _ _ ⟨e48, s48, hs48, rfl, rfl⟩
      obtain ⟨e', s', hq1, hw48, hc48, hl48, hcase⟩ := super_law hk hn hxl hw42 hs42.1 hc42 hl42 hi42
      obtain ⟨rfl, rfl⟩ : e48 = e' ∧ s48 = s' := by rw [hs48] at hq1; simpa using hq1
      obtain ⟨m0, m1, m2, m3, m4, hfm⟩ := five_i (fmA_len n s42)
      rw [hfm]
      refine tl_v rfl (o_move (by conv => lhs; whnf)) ?_
      refine tl_v rfl (o_extract rfl rfl) ?_
      refine tl_v rfl (o_extract rfl rfl) ?_
      refine tl_x rfl (o_alloc z23 rfl) ?_
      rintro _ _ ⟨b10, rfl, rfl⟩
      refine tl_u rfl (o_stUN (l' := ints [m0, m1, m2, m3, m4]) rfl (by repeat (first | with_reducible exact upd_here | with_reducible exact upd_pt | apply upd_left)) sz23 rfl rfl rfl (by show 5 ≤ 5; decide) rfl) ?_
      refine tl_v rfl (o_assign (by conv => lhs; whnf)) ?_
      refine tl_nil ?_
      refine q_then_n ?_
      refine tc_seq ?_
      refine tc_reg ?_
      refine tl_v rfl (o_move (by conv => lhs; whnf)) ?_
      refine tl_v rfl (o_len Try.underlying28 rfl) ?_
      refine tl_c rfl (o_call bd18 rfl (Plan_ok (n := n) (by omega))) ?_
      rintro _ _ ⟨rfl, rfl⟩
      refine tl_v rfl (o_move (by conv => lhs; whnf)) ?_
      refine tl_v rfl (o_extract rfl rfl) ?_
      refine tl_v rfl (o_extract rfl rfl) ?_
      refine tl_x rfl (o_alloc z23 rfl) ?_
      rintro _ _ ⟨b11, rfl, rfl⟩
      refine tl_u rfl (o_stUN (l' := ints [(n : Int), ((128 : Nat) : Int), ((32768 : Nat) : Int), ((32896 : Nat) : Int), (((n - 32896) / 256 : Nat) : Int)]) rfl (by repeat (first | with_reducible exact upd_here | with_reducible exact upd_pt | apply upd_left)) sz23 rfl rfl rfl (by show 5 ≤ 5; decide) rfl) ?_
      refine tl_v rfl (o_assign (by conv => lhs; whnf)) ?_
      refine tl_nil ?_
      refine q_then_n ?_
      refine tc_seq ?_
      refine tc_seq ?_
      refine tc_reg ?_
      refine tl_v rfl (o_move (by conv => lhs; whnf)) ?_
      refine tl_v rfl (o_nei rfl rfl) ?_
      refine tl_nil ?_
      refine q_then_n ?_
      refine tc_cond rfl (fun h => ?_) (fun h => ?_)
      · exfalso; simp at h
      · try simp only [decide_eq_true_eq, decide_eq_false_iff_not, Bool.not_eq_true', Bool.not_eq_false', Option.isNone_some, Option.isNone_none, Bool.not_true, Bool.not_false] at h
        refine tc_skip ?_
        refine q_then_n ?_
        refine tc_seq ?_
        refine tc_seq ?_
        refine tc_reg ?_
        refine tl_v rfl (o_move (by conv => lhs; whnf)) ?_
        refine tl_v rfl (o_eqi rfl rfl) ?_
        refine tl_v rfl (o_move (by conv => lhs; whnf)) ?_
        refine tl_bool (d := 67) rfl (fun h => ?_) (fun h => ?_)
        · obtain rfl : e48 = 0 := by simpa using h
          obtain ⟨_, ho48, hD⟩ := hcase.resolve_right (fun h => by have := h.1; omega)
          have hm : [m0, m1, m2, m3, m4] = [(n : Int), ((128 : Nat) : Int), ((32768 : Nat) : Int), ((32896 : Nat) : Int), (((n - 32896) / 256 : Nat) : Int)] := by rw [← hfm]; exact fmA_0 hs48
          simp only [List.cons.injEq, and_true] at hm
          obtain ⟨rfl, rfl, rfl, rfl, rfl⟩ := hm
          refine tl_v rfl (o_loadN (vs := ints [(n : Int), ((128 : Nat) : Int), ((32768 : Nat) : Int), ((32896 : Nat) : Int), (((n - 32896) / 256 : Nat) : Int)]) a23 sz23 rfl (by repeat (first | with_reducible exact has_here | with_reducible exact has_pt | apply has_left)) (by show 5 ≤ 5; decide) rfl) ?_
          refine tl_v rfl (o_loadN (vs := ints [(n : Int), ((128 : Nat) : Int), ((32768 : Nat) : Int), ((32896 : Nat) : Int), (((n - 32896) / 256 : Nat) : Int)]) a23 sz23 rfl (by repeat (first | with_reducible exact has_here | with_reducible exact has_pt | apply has_left)) (by show 5 ≤ 5; decide) rfl) ?_
          refine tl_v rfl (o_nest (k := 5) (l := [(n : Int), ((128 : Nat) : Int), ((32768 : Nat) : Int), ((32896 : Nat) : Int), (((n - 32896) / 256 : Nat) : Int)]) (m := [(n : Int), ((128 : Nat) : Int), ((32768 : Nat) : Int), ((32896 : Nat) : Int), (((n - 32896) / 256 : Nat) : Int)]) Try.underlying23 (by kernel_rfl) (by kernel_rfl) (by kernel_rfl) rfl rfl rfl rfl) ?_
          refine tl_v rfl (o_pick_t rfl (by conv => lhs; whnf)) ?_
          refine tl_nil ?_
          refine q_then_n ?_
          refine tc_cond rfl (fun h => ?_) (fun h => ?_)
          · exfalso; simp at h
          · try simp only [decide_eq_true_eq, decide_eq_false_iff_not, Bool.not_eq_true', Bool.not_eq_false', Option.isNone_some, Option.isNone_none, Bool.not_true, Bool.not_false] at h
            refine tc_skip ?_
            refine q_then_n ?_
            refine tc_seq ?_
            refine tc_seq ?_
            refine tc_reg ?_
            refine tl_v rfl (o_move (by conv => lhs; whnf)) ?_
            refine tl_v rfl (o_eqi rfl rfl) ?_
            refine tl_v rfl (o_move (by conv => lhs; whnf)) ?_
            refine tl_bool (d := 74) rfl (fun h => ?_) (fun h => ?_)
            · try simp only [decide_eq_true_eq, decide_eq_false_iff_not, Bool.not_eq_true', Bool.not_eq_false', Option.isNone_some, Option.isNone_none, Bool.not_true, Bool.not_false] at h
              refine tl_v rfl (o_move (by conv => lhs; whnf)) ?_
              refine tl_v rfl (o_move (by conv => lhs; whnf)) ?_
              refine tl_c rfl (o_call bd28 rfl (Crash_c (s := s48) (keep := kp) (hr := (by repeat (first | exact hrk | apply Rs.left))) (hk := hkb) (hm := rfl))) ?_
              rintro _ _ ⟨e77, s77, hs77, rfl, rfl⟩
              refine tl_v rfl (o_nei rfl rfl) ?_
              refine tl_v rfl (o_pick_t rfl (by conv => lhs; whnf)) ?_
              refine tl_nil ?_
              refine q_then_n ?_
              refine tc_cond rfl (fun h => ?_) (fun h => ?_)
              · try simp only [decide_eq_true_eq, decide_eq_false_iff_not, Bool.not_eq_true', Bool.not_eq_false', Option.isNone_some, Option.isNone_none, Bool.not_true, Bool.not_false] at h
                refine tc_seq ?_
                refine tc_reg ?_
                refine tl_c rfl (o_call bd24 rfl (works_c)) ?_
                rintro _ _ ⟨rfl, rfl⟩
                refine tl_v rfl (o_assign (by conv => lhs; whnf)) ?_
                refine tl_nil ?_
                refine q_then_n ?_
                refine tc_ret ?_
                refine q_then_r ?_
                exact ⟨.bool true, A, res1 rfl rfl, Dr.sat (by repeat (first | with_reducible exact dr_refl | apply dr_keep | apply dr_drop)), rfl, rfl⟩
              · obtain rfl : s77 = goesS kp s48 := cr_ok ho48 hs77 (by simpa using h)
                refine tc_skip ?_
                refine q_then_n ?_
                refine tc_seq ?_
                refine tc_seq ?_
                refine tc_reg ?_
                refine tl_v rfl (o_move (by conv => lhs; whnf)) ?_
                refine tl_c rfl (o_call bd32 rfl (Wake_c)) ?_
                rintro _ _ ⟨rfl, rfl⟩
                refine tl_env (d := 82) (v := .int .i64 0) (rfl) ?_
                refine tl_v rfl (o_nei rfl rfl) ?_
                refine tl_nil ?_
                refine q_then_n ?_
                refine tc_cond rfl (fun h => ?_) (fun h => ?_)
                · exfalso; simp at h
                · try simp only [decide_eq_true_eq, decide_eq_false_iff_not, Bool.not_eq_true', Bool.not_eq_false', Option.isNone_some, Option.isNone_none, Bool.not_true, Bool.not_false] at h
                  refine tc_skip ?_
                  refine q_then_n ?_
                  refine tc_seq ?_
                  obtain ⟨s3, hs3⟩ : ∃ s3, s3 = { goesS kp s48 with off := false } := ⟨_, rfl⟩
                  rw [← hs3]
                  have ho3 : s3.off = false := by rw [hs3]
                  have hl3 : s3.ls.length = k := by rw [hs3]; exact (goes_len kp s48).trans hl48
                  have hw3 : WfD s3 := by rw [hs3]; exact wf_off (goesS_wf hw48)
                  have hD3 : DoneI n xs (imgS s3) := by rw [hs3]; exact done_goes hc48 hD
                  have hdr : (imgS s3).drop 192 = xs.drop 192 := hD3.2.1
                  have hi3 : (imgS s3).length = n := hD3.1
                  have hl3n : s3.ls.length * 64 = n := by omega
                  obtain ⟨q0, q1, q2, q3, q4, hq⟩ := five_i (rdA_len s3)
                  obtain ⟨e0, he0⟩ : ∃ e0, e0 = (rdA s3).2 := ⟨_, rfl⟩
                  have hrd : rdA s3 = ([q0, q1, q2, q3, q4], e0) := by rw [← hq, he0]
                  obtain ⟨w6, hw6⟩ : ∃ w6, w6 = (rootA s3).1 := ⟨_, rfl⟩
                  obtain ⟨e6, he6⟩ : ∃ e6, e6 = (rootA s3).2 := ⟨_, rfl⟩
                  have hroot : rootA s3 = (w6, e6) := by rw [hw6, he6]
                  refine tc_reg ?_
                  refine tl_v rfl (o_move (by conv => lhs; whnf)) ?_
                  refine tl_c rfl (o_call bd33 rfl (Image_c (s := s3))) ?_
                  rintro _ _ ⟨a85, c85, rfl, hc85, rfl⟩
                  rw [hl3n] at hc85 ⊢
                  refine tl_v rfl (o_assign (by conv => lhs; whnf)) ?_
                  refine tl_nil ?_
                  refine q_then_n ?_
                  refine tc_seq ?_
                  refine tc_reg ?_
                  refine tl_v rfl (o_move (by conv => lhs; whnf)) ?_
                  refine tl_c rfl (o_call bd48 rfl (Read_5 (s := s3) (by repeat (first | with_reducible exact ct_here | apply ct_left)) hrd)) ?_
                  rintro _ _ ⟨rfl, rfl⟩
                  refine tl_v rfl (o_move (by conv => lhs; whnf)) ?_
                  refine tl_v rfl (o_extract rfl rfl) ?_
                  refine tl_v rfl (o_extract rfl rfl) ?_
                  refine tl_x rfl (o_alloc z23 rfl) ?_
                  rintro _ _ ⟨b14, rfl, rfl⟩
                  refine tl_u rfl (o_stUN (l' := ints [q0, q1, q2, q3, q4]) rfl (by repeat (first | with_reducible exact upd_here | with_reducible exact upd_pt | apply upd_left)) sz23 rfl rfl rfl (by show 5 ≤ 5; decide) rfl) ?_
                  refine tl_v rfl (o_assign (by conv => lhs; whnf)) ?_
                  refine tl_nil ?_
                  refine q_then_n ?_
                  refine tc_seq ?_
                  refine tc_reg ?_
                  refine tl_v rfl (o_move (by conv => lhs; whnf)) ?_
                  refine tl_c rfl (o_call bd67 rfl (Root_5 (s := s3) (by repeat (first | with_reducible exact ct_here | apply ct_left)) hroot)) ?_
                  rintro _ _ ⟨rfl, rfl⟩
                  refine tl_v rfl (o_move (by conv => lhs; whnf)) ?_
                  refine tl_v rfl (o_extract rfl rfl) ?_
                  refine tl_v rfl (o_extract rfl rfl) ?_
                  refine tl_v rfl (o_assign (by conv => lhs; whnf)) ?_
                  refine tl_v rfl (o_assign (by conv => lhs; whnf)) ?_
                  refine tl_nil ?_
                  refine q_then_n ?_
                  refine tc_seq ?_
                  refine tc_seq ?_
                  refine tc_regq mo (by kernel_rfl) ?_
                  refine ql_v rfl (o_move (by conv => lhs; whnf)) ?_
                  refine ql_v rfl (o_len Try.underlying28 rfl) ?_
                  refine ql_v rfl (o_move (by conv => lhs; whnf)) ?_
                  refine ql_v rfl (o_len Try.underlying28 rfl) ?_
                  refine ql_v rfl (o_nei rfl rfl) ?_
                  refine ql_v rfl (o_move (by conv => lhs; whnf)) ?_
                  refine ql_bool (d := 101) rfl (fun h => ?_) (fun h => ?_)
                  · exfalso; simp at h
                  · try simp only [decide_eq_true_eq, decide_eq_false_iff_not, Bool.not_eq_true', Bool.not_eq_false', Option.isNone_some, Option.isNone_none, Bool.not_true, Bool.not_false] at h
                    refine ql_v rfl (o_move (by conv => lhs; whnf)) ?_
                    refine ql_v rfl (o_slice (l := 192) Try.underlying28 sz5 rfl (bnd_nat rfl) bnd_none (by omega) (by omega)) ?_
                    refine ql_v rfl (o_move (by conv => lhs; whnf)) ?_
                    refine ql_v rfl (o_slice (l := 192) Try.underlying28 sz5 rfl (bnd_nat rfl) bnd_none (by omega) (by omega)) ?_
                    refine ql_c rfl (fun w => exec_call bd22 rfl) (EqBytes_c (xs := (imgS s3).drop 192) (ys := xs.drop 192) (h1 := rs_cutC (by repeat (first | with_reducible exact rs_sl | apply Rs.left)) (by omega)) (h2 := rs_cutC (by repeat (first | with_reducible exact rs_sl | apply Rs.left)) (by omega)) (hx := by rw [List.length_drop]; omega) (hy := by rw [List.length_drop]; omega)) ?_
                    refine ql_env (d := 106) (v := .bool true) (congrArg Value.bool (decide_eq_true hdr)) ?_
                    refine ql_v rfl (o_not rfl) ?_
                    refine ql_v rfl (o_pick_f rfl (by conv => lhs; whnf)) ?_
                    refine ql_nil ?_
                    refine q_then_n ?_
                    refine tc_cond rfl (fun h => ?_) (fun h => ?_)
                    · exfalso; simp at h
                    · try simp only [decide_eq_true_eq, decide_eq_false_iff_not, Bool.not_eq_true', Bool.not_eq_false', Option.isNone_some, Option.isNone_none, Bool.not_true, Bool.not_false] at h
                      refine tc_skip ?_
                      refine q_then_n ?_
                      refine tc_seq ?_
                      refine tc_seq ?_
                      refine tc_reg ?_
                      refine tl_v rfl (o_move (by conv => lhs; whnf)) ?_
                      refine tl_v rfl (o_eqi rfl rfl) ?_
                      refine tl_nil ?_
                      refine q_then_n ?_
                      refine tc_cond rfl (fun h => ?_) (fun h => ?_)
                      · obtain ⟨hx1, hx2⟩ : [q0, q1, q2, q3, q4] = [(n : Int), ((128 : Nat) : Int), ((32768 : Nat) : Int), ((32896 : Nat) : Int), (((n - 32896) / 256 : Nat) : Int)] ∧ e0 = 0 := by have := (rd_is hk hn ho3 hl3).trans (rdT_t hD3.2.2.1); rw [hrd] at this; simpa using this
                        simp only [List.cons.injEq, and_true] at hx1
                        obtain ⟨rfl, rfl, rfl, rfl, rfl⟩ := hx1
                        obtain ⟨hx3, hx4⟩ : w6 = 0 ∧ e6 = 0 := by have := root_t hk hn ho3 hl3 hD3.2.2.1 hD3.2.2.2; rw [hroot] at this; simpa using this
                        subst hx2 hx3 hx4
                        refine tc_seq ?_
                        refine tc_reg ?_
                        refine tl_v rfl (o_move (by conv => lhs; whnf)) ?_
                        refine tl_v rfl (o_eqi rfl rfl) ?_
                        refine tl_v rfl (o_move (by conv => lhs; whnf)) ?_
                        refine tl_bool (d := 113) rfl (fun h => ?_) (fun h => ?_)
                        · try simp only [decide_eq_true_eq, decide_eq_false_iff_not, Bool.not_eq_true', Bool.not_eq_false', Option.isNone_some, Option.isNone_none, Bool.not_true, Bool.not_false] at h
                          refine tl_v rfl (o_loadN (vs := ints [(n : Int), ((128 : Nat) : Int), ((32768 : Nat) : Int), ((32896 : Nat) : Int), (((n - 32896) / 256 : Nat) : Int)]) a23 sz23 rfl (by repeat (first | with_reducible exact has_here | with_reducible exact has_pt | apply has_left)) (by show 5 ≤ 5; decide) rfl) ?_
                          refine tl_v rfl (o_loadN (vs := ints [(n : Int), ((128 : Nat) : Int), ((32768 : Nat) : Int), ((32896 : Nat) : Int), (((n - 32896) / 256 : Nat) : Int)]) a23 sz23 rfl (by repeat (first | with_reducible exact has_here | with_reducible exact has_pt | apply has_left)) (by show 5 ≤ 5; decide) rfl) ?_
                          refine tl_v rfl (o_eqst (k := 5) (l := [(n : Int), ((128 : Nat) : Int), ((32768 : Nat) : Int), ((32896 : Nat) : Int), (((n - 32896) / 256 : Nat) : Int)]) (m := [(n : Int), ((128 : Nat) : Int), ((32768 : Nat) : Int), ((32896 : Nat) : Int), (((n - 32896) / 256 : Nat) : Int)]) Try.underlying23 (by kernel_rfl) (by kernel_rfl) (by kernel_rfl) rfl rfl rfl rfl) ?_
                          refine tl_v rfl (o_pick_t rfl (by conv => lhs; whnf)) ?_
                          refine tl_v rfl (o_move (by conv => lhs; whnf)) ?_
                          refine tl_bool (d := 118) rfl (fun h => ?_) (fun h => ?_)
                          · try simp only [decide_eq_true_eq, decide_eq_false_iff_not, Bool.not_eq_true', Bool.not_eq_false', Option.isNone_some, Option.isNone_none, Bool.not_true, Bool.not_false] at h
                            refine tl_v rfl (o_move (by conv => lhs; whnf)) ?_
                            refine tl_v rfl (o_eqi rfl rfl) ?_
                            refine tl_v rfl (o_pick_t rfl (by conv => lhs; whnf)) ?_
                            refine tl_v rfl (o_move (by conv => lhs; whnf)) ?_
                            refine tl_bool (d := 122) rfl (fun h => ?_) (fun h => ?_)
                            · try simp only [decide_eq_true_eq, decide_eq_false_iff_not, Bool.not_eq_true', Bool.not_eq_false', Option.isNone_some, Option.isNone_none, Bool.not_true, Bool.not_false] at h
                              refine tl_v rfl (o_move (by conv => lhs; whnf)) ?_
                              refine tl_v rfl (o_eqi rfl rfl) ?_
                              refine tl_v rfl (o_pick_t rfl (by conv => lhs; whnf)) ?_
                              refine tl_v rfl (o_move (by conv => lhs; whnf)) ?_
                              refine tl_bool (d := 126) rfl (fun h => ?_) (fun h => ?_)
                              · try simp only [decide_eq_true_eq, decide_eq_false_iff_not, Bool.not_eq_true', Bool.not_eq_false', Option.isNone_some, Option.isNone_none, Bool.not_true, Bool.not_false] at h
                                refine tl_v rfl (o_move (by conv => lhs; whnf)) ?_
                                refine tl_v rfl (o_slice (l := 64) (h := 192) Try.underlying28 sz5 rfl (bnd_nat rfl) (bnd_nat rfl) (by omega) (by omega)) ?_
                                refine tl_c rfl (o_call bd76 rfl (zero_c (xs := ((imgS s3).drop 64).take 128) (hr := rs_mid (by repeat (first | with_reducible exact rs_sl | apply Rs.left)) (by omega)) (hm := by rw [List.length_take, List.length_drop]; omega))) ?_
                                rintro _ _ ⟨rfl, rfl⟩
                                refine tl_env (d := 129) (v := .bool true) (congrArg Value.bool (show decide (∀ x ∈ ((imgS s3).drop 64).take 128, x = 0) = true by rw [hD3.2.2.2]; exact zero_rep)) ?_
                                refine tl_v rfl (o_pick_t rfl (by conv => lhs; whnf)) ?_
                                refine tl_v rfl (o_move (by conv => lhs; whnf)) ?_
                                refine tl_bool (d := 131) rfl (fun h => ?_) (fun h => ?_)
                                · try simp only [decide_eq_true_eq, decide_eq_false_iff_not, Bool.not_eq_true', Bool.not_eq_false', Option.isNone_some, Option.isNone_none, Bool.not_true, Bool.not_false] at h
                                  refine tl_c rfl (o_call bd24 rfl (works_c)) ?_
                                  rintro _ _ ⟨rfl, rfl⟩
                                  refine tl_v rfl (o_pick_t rfl (by conv => lhs; whnf)) ?_
                                  refine tl_v rfl (o_assign (by conv => lhs; whnf)) ?_
                                  refine tl_nil ?_
                                  refine q_then_n ?_
                                  refine tc_ret ?_
                                  refine q_then_r ?_
                                  exact ⟨.bool true, A, res1 rfl rfl, Dr.sat (by repeat (first | with_reducible exact dr_refl | apply dr_keep | apply dr_drop)), rfl, rfl⟩
                                · (exfalso; first | (revert h; simp; done) | (simp at h; done) | (revert h; simp; omega) | (simp at h; omega) | omega)
                              · (exfalso; first | (revert h; simp; done) | (simp at h; done) | (revert h; simp; omega) | (simp at h; omega) | omega)
                            · (exfalso; first | (revert h; simp; done) | (simp at h; done) | (revert h; simp; omega) | (simp at h; omega) | omega)
                          · (exfalso; first | (revert h; simp; done) | (simp at h; done) | (revert h; simp; omega) | (simp at h; omega) | omega)
                        · (exfalso; first | (revert h; simp; done) | (simp at h; done) | (revert h; simp; omega) | (simp at h; omega) | omega)
                      · exfalso; simp at h
            · (exfalso; first | (revert h; simp; done) | (simp at h; done) | (revert h; simp; omega) | (simp at h; omega) | omega)
        · have hne : e48 ≠ 0 := by simpa using h
          obtain ⟨rfl, ho48, hL⟩ := hcase.resolve_left (fun h => hne h.1)
          refine tl_skip rfl ?_
          refine tl_skip rfl ?_
          refine tl_skip rfl ?_
          refine tl_v rfl (o_pick_f rfl (by conv => lhs; whnf)) ?_
          refine tl_nil ?_
          refine q_then_n ?_
          refine tc_cond_f rfl ?_
          refine tc_skip ?_
          refine q_then_n ?_
          refine tc_seq ?_
          refine tc_seq ?_
          refine tc_reg ?_
          refine tl_v rfl (o_move (by conv => lhs; whnf)) ?_
          refine tl_v rfl (o_eqi rfl rfl) ?_
          refine tl_v rfl (o_move (by conv => lhs; whnf)) ?_
          refine tl_bool (d := 74) rfl (fun h => ?_) (fun h => ?_)
          · (exfalso; first | (revert h; simp; done) | (simp at h; done) | (revert h; simp; omega) | (simp at h; omega) | omega)
          · try simp only [decide_eq_true_eq, decide_eq_false_iff_not, Bool.not_eq_true', Bool.not_eq_false', Option.isNone_some, Option.isNone_none, Bool.not_true, Bool.not_false] at h
            refine tl_skip rfl ?_
            refine tl_skip rfl ?_
            refine tl_skip rfl ?_
            refine tl_skip rfl ?_
            refine tl_v rfl (o_pick_f rfl (by conv => lhs; whnf)) ?_
            refine tl_nil ?_
            refine q_then_n ?_
            refine tc_cond_f rfl ?_
            refine tc_skip ?_
            refine q_then_n ?_
            refine tc_seq ?_
            refine tc_seq ?_
            refine tc_reg ?_
            refine tl_v rfl (o_move (by conv => lhs; whnf)) ?_
            refine tl_c rfl (o_call bd32 rfl (Wake_c)) ?_
            rintro _ _ ⟨rfl, rfl⟩
            refine tl_env (d := 82) (v := .int .i64 0) (by rw [ho48]; rfl) ?_
            refine tl_v rfl (o_nei rfl rfl) ?_
            refine tl_nil ?_
            refine q_then_n ?_
            refine tc_cond rfl (fun h => ?_) (fun h => ?_)
            · exfalso; simp at h
            · try simp only [decide_eq_true_eq, decide_eq_false_iff_not, Bool.not_eq_true', Bool.not_eq_false', Option.isNone_some, Option.isNone_none, Bool.not_true, Bool.not_false] at h
              refine tc_skip ?_
              refine q_then_n ?_
              refine tc_seq ?_
              obtain ⟨s3, hs3⟩ : ∃ s3, s3 = { s48 with off := false } := ⟨_, rfl⟩
              rw [← hs3]
              have ho3 : s3.off = false := by rw [hs3]
              have hl3 : s3.ls.length = k := by rw [hs3]; exact hl48
              have hw3 : WfD s3 := by rw [hs3]; exact wf_off hw48
              have hL3 : LostI n xs (imgS s3) := by rw [hs3]; exact lost_off hL
              have hdr : (imgS s3).drop 192 = xs.drop 192 := hL3.2.1
              have hi3 : (imgS s3).length = n := hL3.1
              have hl3n : s3.ls.length * 64 = n := by omega
              obtain ⟨q0, q1, q2, q3, q4, hq⟩ := five_i (rdA_len s3)
              obtain ⟨e0, he0⟩ : ∃ e0, e0 = (rdA s3).2 := ⟨_, rfl⟩
              have hrd : rdA s3 = ([q0, q1, q2, q3, q4], e0) := by rw [← hq, he0]
              obtain ⟨w6, hw6⟩ : ∃ w6, w6 = (rootA s3).1 := ⟨_, rfl⟩
              obtain ⟨e6, he6⟩ : ∃ e6, e6 = (rootA s3).2 := ⟨_, rfl⟩
              have hroot : rootA s3 = (w6, e6) := by rw [hw6, he6]
              refine tc_reg ?_
              refine tl_v rfl (o_move (by conv => lhs; whnf)) ?_
              refine tl_c rfl (o_call bd33 rfl (Image_c (s := s3))) ?_
              rintro _ _ ⟨a85, c85, rfl, hc85, rfl⟩
              rw [hl3n] at hc85 ⊢
              refine tl_v rfl (o_assign (by conv => lhs; whnf)) ?_
              refine tl_nil ?_
              refine q_then_n ?_
              refine tc_seq ?_
              refine tc_reg ?_
              refine tl_v rfl (o_move (by conv => lhs; whnf)) ?_
              refine tl_c rfl (o_call bd48 rfl (Read_5 (s := s3) (by repeat (first | with_reducible exact ct_here | apply ct_left)) hrd)) ?_
              rintro _ _ ⟨rfl, rfl⟩
              refine tl_v rfl (o_move (by conv => lhs; whnf)) ?_
              refine tl_v rfl (o_extract rfl rfl) ?_
              refine tl_v rfl (o_extract rfl rfl) ?_
              refine tl_x rfl (o_alloc z23 rfl) ?_
              rintro _ _ ⟨b14, rfl, rfl⟩
              refine tl_u rfl (o_stUN (l' := ints [q0, q1, q2, q3, q4]) rfl (by repeat (first | with_reducible exact upd_here | with_reducible exact upd_pt | apply upd_left)) sz23 rfl rfl rfl (by show 5 ≤ 5; decide) rfl) ?_
              refine tl_v rfl (o_assign (by conv => lhs; whnf)) ?_
              refine tl_nil ?_
              refine q_then_n ?_
              refine tc_seq ?_
              refine tc_reg ?_
              refine tl_v rfl (o_move (by conv => lhs; whnf)) ?_
              refine tl_c rfl (o_call bd67 rfl (Root_5 (s := s3) (by repeat (first | with_reducible exact ct_here | apply ct_left)) hroot)) ?_
              rintro _ _ ⟨rfl, rfl⟩
              refine tl_v rfl (o_move (by conv => lhs; whnf)) ?_
              refine tl_v rfl (o_extract rfl rfl) ?_
              refine tl_v rfl (o_extract rfl rfl) ?_
              refine tl_v rfl (o_assign (by conv => lhs; whnf)) ?_
              refine tl_v rfl (o_assign (by conv => lhs; whnf)) ?_
              refine tl_nil ?_
              refine q_then_n ?_
              refine tc_seq ?_
              refine tc_seq ?_
              refine tc_regq mo (by kernel_rfl) ?_
              refine ql_v rfl (o_move (by conv => lhs; whnf)) ?_
              refine ql_v rfl (o_len Try.underlying28 rfl) ?_
              refine ql_v rfl (o_move (by conv => lhs; whnf)) ?_
              refine ql_v rfl (o_len Try.underlying28 rfl) ?_
              refine ql_v rfl (o_nei rfl rfl) ?_
              refine ql_v rfl (o_move (by conv => lhs; whnf)) ?_
              refine ql_bool (d := 101) rfl (fun h => ?_) (fun h => ?_)
              · exfalso; simp at h
              · try simp only [decide_eq_true_eq, decide_eq_false_iff_not, Bool.not_eq_true', Bool.not_eq_false', Option.isNone_some, Option.isNone_none, Bool.not_true, Bool.not_false] at h
                refine ql_v rfl (o_move (by conv => lhs; whnf)) ?_
                refine ql_v rfl (o_slice (l := 192) Try.underlying28 sz5 rfl (bnd_nat rfl) bnd_none (by omega) (by omega)) ?_
                refine ql_v rfl (o_move (by conv => lhs; whnf)) ?_
                refine ql_v rfl (o_slice (l := 192) Try.underlying28 sz5 rfl (bnd_nat rfl) bnd_none (by omega) (by omega)) ?_
                refine ql_c rfl (fun w => exec_call bd22 rfl) (EqBytes_c (xs := (imgS s3).drop 192) (ys := xs.drop 192) (h1 := rs_cutC (by repeat (first | with_reducible exact rs_sl | apply Rs.left)) (by omega)) (h2 := rs_cutC (by repeat (first | with_reducible exact rs_sl | apply Rs.left)) (by omega)) (hx := by rw [List.length_drop]; omega) (hy := by rw [List.length_drop]; omega)) ?_
                refine ql_env (d := 106) (v := .bool true) (congrArg Value.bool (decide_eq_true hdr)) ?_
                refine ql_v rfl (o_not rfl) ?_
                refine ql_v rfl (o_pick_f rfl (by conv => lhs; whnf)) ?_
                refine ql_nil ?_
                refine q_then_n ?_
                refine tc_cond rfl (fun h => ?_) (fun h => ?_)
                · exfalso; simp at h
                · try simp only [decide_eq_true_eq, decide_eq_false_iff_not, Bool.not_eq_true', Bool.not_eq_false', Option.isNone_some, Option.isNone_none, Bool.not_true, Bool.not_false] at h
                  refine tc_skip ?_
                  refine q_then_n ?_
                  refine tc_seq ?_
                  refine tc_seq ?_
                  refine tc_reg ?_
                  refine tl_v rfl (o_move (by conv => lhs; whnf)) ?_
                  refine tl_v rfl (o_eqi rfl rfl) ?_
                  refine tl_nil ?_
                  refine q_then_n ?_
                  refine tc_cond rfl (fun h => ?_) (fun h => ?_)
                  · exfalso; simp at h
                  · try simp only [decide_eq_true_eq, decide_eq_false_iff_not, Bool.not_eq_true', Bool.not_eq_false', Option.isNone_some, Option.isNone_none, Bool.not_true, Bool.not_false] at h
                    refine tc_skip ?_
                    refine q_then_n ?_
                    refine tc_seq ?_
                    refine tc_regq mo (by kernel_rfl) ?_
                    refine ql_v rfl (o_move (by conv => lhs; whnf)) ?_
                    refine ql_v rfl (o_slice (h := 192) Try.underlying28 sz5 rfl bnd_none (bnd_nat rfl) (by omega) (by omega)) ?_
                    refine ql_env (d := 135) (v := .slice a85 192 c85) (by show Value.slice (cutAddr a85 c85 0 1) (192 - 0) (c85 - 0) = _; rw [cut_none]; rfl) ?_
                    refine ql_v rfl (o_move (by conv => lhs; whnf)) ?_
                    refine ql_v rfl (o_slice (h := 192) Try.underlying28 sz5 rfl bnd_none (bnd_nat rfl) (by omega) (by omega)) ?_
                    refine ql_env (d := 137) (v := .slice a20 192 c20) (by show Value.slice (cutAddr a20 c20 0 1) (192 - 0) (c20 - 0) = _; rw [cut_none]; rfl) ?_
                    refine ql_c rfl (fun w => exec_call bd22 rfl) (EqBytes_c (xs := (imgS s3).take 192) (ys := xs.take 192) (h1 := by rw [← bys_take]; exact Rs.sub (by repeat (first | with_reducible exact rs_sl | apply Rs.left)) _) (h2 := by rw [← bys_take]; exact Rs.sub (by repeat (first | with_reducible exact rs_sl | apply Rs.left)) _) (hx := by rw [List.length_take]; omega) (hy := by rw [List.length_take]; omega)) ?_
                    refine ql_v rfl (o_assign (by conv => lhs; whnf)) ?_
                    refine ql_nil ?_
                    refine q_then_n ?_
                    refine tc_seq ?_
                    have hfin := lost_rd hk hn ho3 hl3 hL3
                    rw [hrd, hroot] at hfin
                    refine tc_reg ?_
                    refine tl_v rfl (o_move (by conv => lhs; whnf)) ?_
                    refine tl_v rfl (o_eqi rfl rfl) ?_
                    refine tl_v rfl (o_move (by conv => lhs; whnf)) ?_
                    refine tl_bool (d := 141) rfl (fun h => ?_) (fun h => ?_)
                    · try simp only [decide_eq_true_eq, decide_eq_false_iff_not, Bool.not_eq_true', Bool.not_eq_false', Option.isNone_some, Option.isNone_none, Bool.not_true, Bool.not_false] at h
                      refine tl_v rfl (o_move (by conv => lhs; whnf)) ?_
                      refine tl_v rfl (o_move (by conv => lhs; whnf)) ?_
                      refine tl_bool (d := 143) rfl (fun h => ?_) (fun h => ?_)
                      · try simp only [decide_eq_true_eq, decide_eq_false_iff_not, Bool.not_eq_true', Bool.not_eq_false', Option.isNone_some, Option.isNone_none, Bool.not_true, Bool.not_false] at h
                        refine tl_skip rfl ?_
                        refine tl_skip rfl ?_
                        refine tl_skip rfl ?_
                        refine tl_skip rfl ?_
                        refine tl_skip rfl ?_
                        refine tl_skip rfl ?_
                        refine tl_v rfl (o_pick_t rfl (by conv => lhs; whnf)) ?_
                        refine tl_v rfl (o_move (by conv => lhs; whnf)) ?_
                        refine tl_skip rfl ?_
                        refine tl_skip rfl ?_
                        refine tl_skip rfl ?_
                        refine tl_skip rfl ?_
                        refine tl_skip rfl ?_
                        refine tl_skip rfl ?_
                        refine tl_skip rfl ?_
                        refine tl_skip rfl ?_
                        refine tl_skip rfl ?_
                        refine tl_skip rfl ?_
                        refine tl_skip rfl ?_
                        refine tl_skip rfl ?_
                        refine tl_skip rfl ?_
                        refine tl_skip rfl ?_
                        refine tl_skip rfl ?_
                        refine tl_skip rfl ?_
                        refine tl_v rfl (o_pick_t rfl (by conv => lhs; whnf)) ?_
                        refine tl_v rfl (o_pick_t rfl (by conv => lhs; whnf)) ?_
                        refine tl_v rfl (o_move (by conv => lhs; whnf)) ?_
                        refine tl_c rfl (o_call bd24 rfl (works_c)) ?_
                        rintro _ _ ⟨rfl, rfl⟩
                        refine tl_v rfl (o_pick_t rfl (by conv => lhs; whnf)) ?_
                        refine tl_v rfl (o_assign (by conv => lhs; whnf)) ?_
                        refine tl_nil ?_
                        refine q_then_n ?_
                        refine tc_ret ?_
                        exact ⟨.bool true, A, res1 rfl rfl, Dr.sat (by repeat (first | with_reducible exact dr_refl | apply dr_keep | apply dr_drop)), rfl, rfl⟩
                      · have hfin := hfin.resolve_left (by simpa using h)
                        simp only [Prod.mk.injEq] at hfin
                        refine tl_v rfl (o_move (by conv => lhs; whnf)) ?_
                        refine tl_v rfl (o_eqi rfl rfl) ?_
                        refine tl_v rfl (o_move (by conv => lhs; whnf)) ?_
                        refine tl_bool (d := 146) rfl (fun h => ?_) (fun h => ?_)
                        · have he0v : e0 = 100 := by simpa using h
                          have he6v : e6 = 100 := by rcases hfin with h | h <;> omega
                          subst he6v
                          refine tl_v rfl (o_move (by conv => lhs; whnf)) ?_
                          refine tl_v rfl (o_eqi rfl rfl) ?_
                          refine tl_v rfl (o_pick_t rfl (by conv => lhs; whnf)) ?_
                          refine tl_v rfl (o_pick_f rfl (by conv => lhs; whnf)) ?_
                          refine tl_v rfl (o_move (by conv => lhs; whnf)) ?_
                          refine tl_bool (d := 151) rfl (fun h => ?_) (fun h => ?_)
                          · try simp only [decide_eq_true_eq, decide_eq_false_iff_not, Bool.not_eq_true', Bool.not_eq_false', Option.isNone_some, Option.isNone_none, Bool.not_true, Bool.not_false] at h
                            refine tl_skip rfl ?_
                            refine tl_skip rfl ?_
                            refine tl_skip rfl ?_
                            refine tl_skip rfl ?_
                            refine tl_skip rfl ?_
                            refine tl_skip rfl ?_
                            refine tl_skip rfl ?_
                            refine tl_skip rfl ?_
                            refine tl_skip rfl ?_
                            refine tl_skip rfl ?_
                            refine tl_skip rfl ?_
                            refine tl_skip rfl ?_
                            refine tl_skip rfl ?_
                            refine tl_skip rfl ?_
                            refine tl_skip rfl ?_
                            refine tl_skip rfl ?_
                            refine tl_v rfl (o_pick_t rfl (by conv => lhs; whnf)) ?_
                            refine tl_v rfl (o_pick_t rfl (by conv => lhs; whnf)) ?_
                            refine tl_v rfl (o_move (by conv => lhs; whnf)) ?_
                            refine tl_c rfl (o_call bd24 rfl (works_c)) ?_
                            rintro _ _ ⟨rfl, rfl⟩
                            refine tl_v rfl (o_pick_t rfl (by conv => lhs; whnf)) ?_
                            refine tl_v rfl (o_assign (by conv => lhs; whnf)) ?_
                            refine tl_nil ?_
                            refine q_then_n ?_
                            refine tc_ret ?_
                            exact ⟨.bool true, A, res1 rfl rfl, Dr.sat (by repeat (first | with_reducible exact dr_refl | apply dr_keep | apply dr_drop)), rfl, rfl⟩
                          · exfalso; simp at h
                        · have he0v : e0 ≠ 100 := by simpa using h
                          obtain ⟨⟨hx1, hx2⟩, ⟨hx3, hx4⟩, hx5⟩ := hfin.resolve_left (fun h => he0v h.1.2)
                          simp only [List.cons.injEq, and_true] at hx1
                          obtain ⟨rfl, rfl, rfl, rfl, rfl⟩ := hx1
                          subst hx2 hx3 hx4
                          refine tl_skip rfl ?_
                          refine tl_skip rfl ?_
                          refine tl_v rfl (o_pick_f rfl (by conv => lhs; whnf)) ?_
                          refine tl_v rfl (o_pick_f rfl (by conv => lhs; whnf)) ?_
                          refine tl_v rfl (o_move (by conv => lhs; whnf)) ?_
                          refine tl_v rfl (o_move (by conv => lhs; whnf)) ?_
                          refine tl_v rfl (o_eqi rfl rfl) ?_
                          refine tl_v rfl (o_move (by conv => lhs; whnf)) ?_
                          refine tl_bool (d := 154) rfl (fun h => ?_) (fun h => ?_)
                          · try simp only [decide_eq_true_eq, decide_eq_false_iff_not, Bool.not_eq_true', Bool.not_eq_false', Option.isNone_some, Option.isNone_none, Bool.not_true, Bool.not_false] at h
                            refine tl_v rfl (o_loadN (vs := ints [(n : Int), ((128 : Nat) : Int), ((32768 : Nat) : Int), ((32896 : Nat) : Int), (((n - 32896) / 256 : Nat) : Int)]) a23 sz23 rfl (by repeat (first | with_reducible exact has_here | with_reducible exact has_pt | apply has_left)) (by show 5 ≤ 5; decide) rfl) ?_
                            refine tl_v rfl (o_loadN (vs := ints [(n : Int), ((128 : Nat) : Int), ((32768 : Nat) : Int), ((32896 : Nat) : Int), (((n - 32896) / 256 : Nat) : Int)]) a23 sz23 rfl (by repeat (first | with_reducible exact has_here | with_reducible exact has_pt | apply has_left)) (by show 5 ≤ 5; decide) rfl) ?_
                            refine tl_v rfl (o_eqst (k := 5) (l := [(n : Int), ((128 : Nat) : Int), ((32768 : Nat) : Int), ((32896 : Nat) : Int), (((n - 32896) / 256 : Nat) : Int)]) (m := [(n : Int), ((128 : Nat) : Int), ((32768 : Nat) : Int), ((32896 : Nat) : Int), (((n - 32896) / 256 : Nat) : Int)]) Try.underlying23 (by kernel_rfl) (by kernel_rfl) (by kernel_rfl) rfl rfl rfl rfl) ?_
                            refine tl_v rfl (o_pick_t rfl (by conv => lhs; whnf)) ?_
                            refine tl_v rfl (o_move (by conv => lhs; whnf)) ?_
                            refine tl_bool (d := 159) rfl (fun h => ?_) (fun h => ?_)
                            · try simp only [decide_eq_true_eq, decide_eq_false_iff_not, Bool.not_eq_true', Bool.not_eq_false', Option.isNone_some, Option.isNone_none, Bool.not_true, Bool.not_false] at h
                              refine tl_v rfl (o_move (by conv => lhs; whnf)) ?_
                              refine tl_v rfl (o_eqi rfl rfl) ?_
                              refine tl_v rfl (o_pick_t rfl (by conv => lhs; whnf)) ?_
                              refine tl_v rfl (o_move (by conv => lhs; whnf)) ?_
                              refine tl_bool (d := 163) rfl (fun h => ?_) (fun h => ?_)
                              · try simp only [decide_eq_true_eq, decide_eq_false_iff_not, Bool.not_eq_true', Bool.not_eq_false', Option.isNone_some, Option.isNone_none, Bool.not_true, Bool.not_false] at h
                                refine tl_v rfl (o_move (by conv => lhs; whnf)) ?_
                                refine tl_v rfl (o_slice (l := 64) (h := 192) Try.underlying28 sz5 rfl (bnd_nat rfl) (bnd_nat rfl) (by omega) (by omega)) ?_
                                refine tl_c rfl (o_call bd76 rfl (zero_c (xs := ((imgS s3).drop 64).take 128) (hr := rs_mid (by repeat (first | with_reducible exact rs_sl | apply Rs.left)) (by omega)) (hm := by rw [List.length_take, List.length_drop]; omega))) ?_
                                rintro _ _ ⟨rfl, rfl⟩
                                refine tl_env (d := 166) (v := .bool true) (congrArg Value.bool (show decide (∀ x ∈ ((imgS s3).drop 64).take 128, x = 0) = true by rw [hx5]; exact zero_rep)) ?_
                                refine tl_v rfl (o_pick_t rfl (by conv => lhs; whnf)) ?_
                                refine tl_v rfl (o_pick_f rfl (by conv => lhs; whnf)) ?_
                                refine tl_v rfl (o_pick_t rfl (by conv => lhs; whnf)) ?_
                                refine tl_v rfl (o_move (by conv => lhs; whnf)) ?_
                                refine tl_bool (d := 170) rfl (fun h => ?_) (fun h => ?_)
                                · try simp only [decide_eq_true_eq, decide_eq_false_iff_not, Bool.not_eq_true', Bool.not_eq_false', Option.isNone_some, Option.isNone_none, Bool.not_true, Bool.not_false] at h
                                  refine tl_c rfl (o_call bd24 rfl (works_c)) ?_
                                  rintro _ _ ⟨rfl, rfl⟩
                                  refine tl_v rfl (o_pick_t rfl (by conv => lhs; whnf)) ?_
                                  refine tl_v rfl (o_assign (by conv => lhs; whnf)) ?_
                                  refine tl_nil ?_
                                  refine q_then_n ?_
                                  refine tc_ret ?_
                                  exact ⟨.bool true, A, res1 rfl rfl, Dr.sat (by repeat (first | with_reducible exact dr_refl | apply dr_keep | apply dr_drop)), rfl, rfl⟩
                                · (exfalso; first | (revert h; simp; done) | (simp at h; done) | (revert h; simp; omega) | (simp at h; omega) | omega)
                              · (exfalso; first | (revert h; simp; done) | (simp at h; done) | (revert h; simp; omega) | (simp at h; omega) | omega)
                            · (exfalso; first | (revert h; simp; done) | (simp at h; done) | (revert h; simp; omega) | (simp at h; omega) | omega)
                          · (exfalso; first | (revert h; simp; done) | (simp at h; done) | (revert h; simp; omega) | (simp at h; omega) | omega)
                    · (exfalso; first | (revert h; simp; done) | (simp at h; done) | (revert h; simp; omega) | (simp at h; omega) | omega)
end Go.Vl

set_option linter.unusedVariables false
set_option linter.unusedSimpArgs false
namespace Go.Vl
open Go Go.Proofs
def PSteps (A : SP) (cs : List Value) (ss : List StepC) : Prop := ∃ a cap, cs = [.slice a ss.length cap] ∧ ss.length ≤ cap ∧ ss.length ≤ 1353245080300 ∧ Rs A a (scs ss) ∧ ∀ t ∈ ss, t.v < 18446744073709551616
theorem rdb_intsA (W : World) : Rdb Try.prog W 37 (PInts (old W)) := rdb_ints Try.underlying37 Try.underlying3 (by kernel_rfl) (by kernel_rfl)
end Go.Vl

set_option linter.unusedVariables false
set_option linter.unusedSimpArgs false
namespace Go.Vl
open Go Go.Proofs
structure ImC where
  sz : Int
  fl : Int
  ha : Option Addr
  hcp : Nat
  hd : List Nat
  rt : Bool
  tn : Int
def ImC.cells (t : ImC) : List Value := [.int .i64 t.sz, .int .u8 t.fl, .slice t.ha t.hd.length t.hcp, .bool t.rt, .int .i64 t.tn]
def PImg (A : SP) (cs : List Value) (t : ImC) : Prop := cs = t.cells ∧ Rs A t.ha (bys t.hd) ∧ (∀ x ∈ t.hd, x < 256) ∧ t.hd.length ≤ t.hcp ∧ t.hd.length ≤ 140737488351232 ∧ (0 ≤ t.fl ∧ t.fl < 256) ∧ (-9223372036854775808 ≤ t.tn ∧ t.tn ≤ 9223372036854775807) ∧ (-9223372036854775808 ≤ t.sz ∧ t.sz ≤ 9223372036854775807)
set_option maxRecDepth 20000 in
theorem rdb_img (W : World) : Rdb Try.prog W 121 (PImg (old W)) := fun H enc sp hd fu cs d pl h hw => by
  obtain ⟨hl, hf⟩ := rdb_fields Try.underlying121 h hw
  have hc : Try.prog.cellsOf 121 = 5 := by kernel_rfl
  have hci : Try.prog.cellsOf 3 = 1 := by kernel_rfl
  have hcu : Try.prog.cellsOf 5 = 1 := by kernel_rfl
  have hcb : Try.prog.cellsOf 28 = 1 := by kernel_rfl
  have hco : Try.prog.cellsOf 4 = 1 := by kernel_rfl
  rw [hc] at hl
  obtain ⟨sz, e0, g0⟩ := hf 0 _ rfl (rdb_int Try.underlying3)
  obtain ⟨fl, e1, g1⟩ := hf 1 _ rfl (rdb_int Try.underlying5)
  obtain ⟨hd, a, c, e2, k1, k2, k3, k4⟩ := hf 2 _ rfl (rdb_bys Try.underlying28 Try.underlying5 (by kernel_rfl) (by kernel_rfl))
  obtain ⟨rt, e3⟩ := hf 3 _ rfl (rdb_bool Try.underlying4)
  obtain ⟨tn, e4, g4⟩ := hf 4 _ rfl (rdb_int Try.underlying3)
  have b1 := Go.bounds_u8 g1
  match cs, hl with
  | [c0, c1, c2, c3, c4], _ =>
    simp [hci] at e0 e4
    simp [hcu] at e1
    simp [hcb] at e2
    simp [hco, PBool] at e3
    subst e0 e1 e2 e3 e4
    exact ⟨⟨sz, fl, a, c, hd, rt, tn⟩, rfl, k3, k4, k1, k2, ⟨b1.1, by simp only []; omega⟩, i64_wf g4, i64_wf g0⟩
theorem img_cells {t : ImC} (h : 0 ≤ t.fl) : t.cells = [.int .i64 t.sz, .int .u8 ((t.fl.toNat : Nat) : Int), .slice t.ha t.hd.length t.hcp, .bool t.rt, .int .i64 t.tn] := by unfold ImC.cells; rw [Int.toNat_of_nonneg h]
theorem SuperLost_L (F : SP) (cs : Array Value) (t : ImC) (h : PImg F cs.toList t) (v2 : Value) (af : Int) (haf : PInt .i64 [v2] af) (v3 : Value) (kp : List Int) (hkp : PInts F [v3] kp) :
    Fn Try.prog 16 #[.agg cs, v2, v3] F (fun r B => r = .bool true ∧ B = F) := by
  obtain ⟨e, h1, h2, h3, h4, h5, h6, h7⟩ := h
  obtain ⟨e2, _⟩ := haf
  obtain ⟨ka, kc, e3, k1, k2, k3, k4⟩ := hkp
  simp only [List.cons.injEq, and_true] at e2 e3
  subst e2 e3
  have ecs : cs = t.cells.toArray := by rw [← e]
  rw [ecs, img_cells h5.1]
  by_cases c : t.sz < 0 ∨ 4194368 < t.sz
  · exact SuperLost_n1 F h1 h2 (by omega) h6 h4 k3 k2 (fun k hk => (k4 k hk).2) c
  · obtain ⟨n, hn⟩ : ∃ n : Nat, t.sz = (n : Int) := ⟨t.sz.toNat, by omega⟩
    rw [hn]
    by_cases hf : fitsB (n : Nat) = true
    · have hf' : 64 ≤ (n : Int) ∧ (n : Int) ≤ 4194304 ∧ (n : Int) % 64 = 0 := by unfold fitsB at hf; simpa using hf
      by_cases hs : n < 36992
      · exact SuperLost_s F h1 h2 (by omega) h6 h4 k3 k2 (fun k hk => (k4 k hk).2) (k := n / 64) (by omega) (by omega) hs k1
      · exact SuperLost_ok F h1 h2 (by omega) h6 h4 k3 k2 (fun k hk => (k4 k hk).2) (k := n / 64) (by omega) (by omega) (by omega) k1
    · exact SuperLost_n2 F h1 h2 (by omega) h6 h4 k3 k2 (fun k hk => (k4 k hk).2) (by omega) (by simpa using hf)
end Go.Vl
