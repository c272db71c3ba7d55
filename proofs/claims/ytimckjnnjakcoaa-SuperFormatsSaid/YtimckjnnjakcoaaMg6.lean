/- What the row rests on, part 6: a calculus of assertions, walks of functions over it, and plain laws. Conditions: none. -/
import Derived.Deep.QuietTactic
import Derived.BigQuiet
import Derived.WalkKit
import Derived.Test.YtimckjnnjakcoaaProg
import Derived.OrdersHeld
import Derived.Laws.BytesArg
import Derived.RangeFuncRecord
import Derived.TacticsIn
import Derived.Deep.Slices
import Derived.OpenShut
import Derived.ChangeArms
import Derived.SizedLaws
import Derived.ChangeSame
import Derived.Test.YtimckjnnjakcoaaRows
import Derived.Test.YtimckjnnjakcoaaMg5
set_option linter.unusedVariables false
set_option linter.unusedSimpArgs false
namespace Go.Vl
open Go Go.Proofs
theorem armS_any {af : Int} {kp : List Int} {s s2 : DevS} {e : Int} (ho : s.off = false) (ha : s.arms = []) (h : armS [(af, kp)] s = (e, s2)) : s2.off = false ∧ s2.ls = s.ls := by
  unfold armS at h
  rw [if_neg (by rw [ho]; decide)] at h
  split at h
  · simp only [Prod.mk.injEq] at h; rw [← h.2]; exact ⟨ho, rfl⟩
  · split at h
    · simp only [Prod.mk.injEq] at h; rw [← h.2]; exact ⟨ho, rfl⟩
    · simp only [Prod.mk.injEq] at h; rw [← h.2]; exact ⟨ho, rfl⟩
theorem ctS_rows {s : DevS} (hw : WfD s) (q : Nat) : (ctS q s).length ≤ 2199023255552 ∧ ∀ l ∈ ctS q s, l.length = 64 := by
  by_cases h : q < s.ls.length
  · rw [ctS_at h, List.length_map]
    have hl := hw.line _ (List.getElem_mem h)
    exact ⟨hl.small, fun l hm => by obtain ⟨x, hx, rfl⟩ := List.mem_map.1 hm; exact lb_len (hl.eight _ hx)⟩
  · have e : ctS q s = [] := ctS_out h
    rw [e]; exact ⟨by simp, fun l h => by simp at h⟩
attribute [local irreducible] crk crL crc Sl pt ro mbs sbB planT Dev RDev imgS lineT fromS Parts
set_option maxRecDepth 20000 in
set_option maxHeartbeats 4000000 in
theorem SuperFormats_n1 (A : SP) {sz tn af : Int} {fl hcp kc : Nat} {ha ka : Option Addr} {kp : List Int} {hd : List Nat} {rt : Bool} (hrh : Rs A ha (bys hd)) (hhb : ∀ x ∈ hd, x < 256) (hfl : fl < 256) (hht : -9223372036854775808 ≤ tn ∧ tn ≤ 9223372036854775807) (hhl : hd.length ≤ 140737488351232) (hrk : Rs A ka (ints kp)) (hkl : kp.length ≤ 17592186043904) (hkb : ∀ k ∈ kp, k ≤ 9223372036854775807) (haf : -9223372036854775808 ≤ af ∧ af ≤ 9223372036854775807) (hkc : kp.length ≤ kc) (hs : sz < 0 ∨ 4194368 < sz) :
    Fn Try.prog 17 #[.agg ([.int .i64 sz, .int .u8 (fl : Nat), .slice ha hd.length hcp, .bool rt, .int .i64 tn] : List Value).toArray, .int .i64 af, .slice ka kp.length kc] (A) (fun r B => r = .bool true ∧ B = A) := by
  refine fn_enterW (args := [.agg ([.int .i64 sz, .int .u8 (fl : Nat), .slice ha hd.length hcp, .bool rt, .int .i64 tn] : List Value).toArray, .int .i64 af, .slice ka kp.length kc]) Try.func17 rfl Try.ntmps17 (by simp) ?_
  refine tc_seq ?_
  refine tc_reg ?_
  refine tl_x rfl (o_box rfl rfl) ?_
  rintro _ _ ⟨b3, rfl, rfl⟩
  refine tla ?_
  refine tl_nil ?_
  refine q_then_n ?_
  refine tc_seq ?_
  refine tc_reg ?_
  refine tl_v rfl (o_loadN (vs := [.int .i64 sz, .int .u8 (fl : Nat), .slice ha hd.length hcp, .bool rt, .int .i64 tn]) a121 sz121 rfl (by repeat (first | with_reducible exact has_here | with_reducible exact has_pt | apply has_left)) (by show 5 ≤ 5; decide) rfl) ?_
  refine tl_c rfl (o_call bd64 rfl (ImBytes_no (hrh := (by repeat (first | exact hrh | apply Rs.left))) (hhb := hhb) (hfl := hfl) (hht := hht) (hs := hs))) ?_
  rintro _ _ ⟨rfl, rfl⟩
  refine tla ?_
  refine tl_nil ?_
  refine q_then_n ?_
  refine tc_seq ?_
  refine tc_reg ?_
  refine tlm ?_
  refine tl_c rfl (o_call bd39 rfl (CopyBytes_c (xs := []) (hr := rs_nil) (hm := rfl))) ?_
  rintro _ _ ⟨a24, c24, rfl, hc24, rfl⟩
  refine tl_c rfl (o_call bd42 rfl (FromNo_c (hno := by decide))) ?_
  rintro _ _ ⟨rfl, rfl⟩
  refine tlm ?_
  refine tl_v rfl (o_extract rfl rfl) ?_
  refine tl_v rfl (o_extract rfl rfl) ?_
  refine tla ?_
  refine tla ?_
  refine tl_nil ?_
  refine q_then_n ?_
  refine tc_seq ?_
  refine tc_reg ?_
  refine tlm ?_
  refine tl_c rfl (o_call bd65 rfl (rFromNo_c (hno := by decide))) ?_
  rintro _ _ ⟨rfl, rfl⟩
  refine tlm ?_
  refine tl_v rfl (o_extract rfl rfl) ?_
  refine tl_v rfl (o_extract rfl rfl) ?_
  refine tla ?_
  refine tla ?_
  refine tl_nil ?_
  refine q_then_n ?_
  refine tc_seq ?_
  refine tc_seq ?_
  refine tc_reg ?_
  refine tlm ?_
  refine tlm ?_
  refine tl_v rfl (o_nei rfl rfl) ?_
  refine tl_nil ?_
  refine q_then_n ?_
  refine tc_cond rfl (fun h => ?_) (fun h => ?_)
  · exfalso; simp at h
  · try simp only [lv1, lv2, lv3, lv4, lv5, lv6, Bool.not_true, Bool.not_false] at h
    refine tc_skip ?_
    refine q_then_n ?_
    refine tc_seq ?_
    refine tc_seq ?_
    refine tc_reg ?_
    refine tlm ?_
    refine tl_v rfl (o_nei rfl rfl) ?_
    refine tl_nil ?_
    refine q_then_n ?_
    refine tc_cond rfl (fun h => ?_) (fun h => ?_)
    · try simp only [lv1, lv2, lv3, lv4, lv5, lv6, Bool.not_true, Bool.not_false] at h
      refine tc_seq ?_
      refine tc_reg ?_
      refine tl_c rfl (o_call bd24 rfl (works_c)) ?_
      rintro _ _ ⟨rfl, rfl⟩
      refine tla ?_
      refine tl_nil ?_
      refine q_then_n ?_
      refine tc_ret ?_
      refine q_then_r ?_
      exact ⟨.bool true, A, res1 rfl rfl, Dr.sat (by repeat (first | with_reducible exact dr_refl | apply dr_keep | apply dr_drop)), rfl, rfl⟩
    · exfalso; simp at h
set_option maxRecDepth 20000 in
set_option maxHeartbeats 4000000 in
theorem SuperFormats_n2 (A : SP) {n : Nat} {tn af : Int} {fl hcp kc : Nat} {ha ka : Option Addr} {kp : List Int} {hd : List Nat} {rt : Bool} (hrh : Rs A ha (bys hd)) (hhb : ∀ x ∈ hd, x < 256) (hfl : fl < 256) (hht : -9223372036854775808 ≤ tn ∧ tn ≤ 9223372036854775807) (hhl : hd.length ≤ 140737488351232) (hrk : Rs A ka (ints kp)) (hkl : kp.length ≤ 17592186043904) (hkb : ∀ k ∈ kp, k ≤ 9223372036854775807) (haf : -9223372036854775808 ≤ af ∧ af ≤ 9223372036854775807) (hkc : kp.length ≤ kc) (hn : n ≤ 4194368) (hno : fitsB (n : Nat) = false) :
    Fn Try.prog 17 #[.agg ([.int .i64 (n : Int), .int .u8 (fl : Nat), .slice ha hd.length hcp, .bool rt, .int .i64 tn] : List Value).toArray, .int .i64 af, .slice ka kp.length kc] (A) (fun r B => r = .bool true ∧ B = A) := by
  refine fn_enterW (args := [.agg ([.int .i64 (n : Int), .int .u8 (fl : Nat), .slice ha hd.length hcp, .bool rt, .int .i64 tn] : List Value).toArray, .int .i64 af, .slice ka kp.length kc]) Try.func17 rfl Try.ntmps17 (by simp) ?_
  refine tc_seq ?_
  refine tc_reg ?_
  refine tl_x rfl (o_box rfl rfl) ?_
  rintro _ _ ⟨b3, rfl, rfl⟩
  refine tla ?_
  refine tl_nil ?_
  refine q_then_n ?_
  refine tc_seq ?_
  refine tc_reg ?_
  refine tl_v rfl (o_loadN (vs := [.int .i64 (n : Int), .int .u8 (fl : Nat), .slice ha hd.length hcp, .bool rt, .int .i64 tn]) a121 sz121 rfl (by repeat (first | with_reducible exact has_here | with_reducible exact has_pt | apply has_left)) (by show 5 ≤ 5; decide) rfl) ?_
  refine tl_c rfl (o_call bd64 rfl (ImBytes_ok (hrh := (by repeat (first | exact hrh | apply Rs.left))) (hhb := hhb) (hfl := hfl) (hht := hht) (hn := by omega) (hhl := hhl))) ?_
  rintro _ _ ⟨a21, c21, xs, rfl, hc21, hxl, hxb, rfl⟩
  refine tla ?_
  refine tl_nil ?_
  refine q_then_n ?_
  refine tc_seq ?_
  refine tc_reg ?_
  refine tlm ?_
  refine tl_c rfl (o_call bd39 rfl (CopyBytes_c (xs := xs))) ?_
  rintro _ _ ⟨u24, c24, rfl, hc24, rfl⟩
  refine tl_c rfl (o_call bd42 rfl (FromNo_c (m := n) (hno := hno))) ?_
  rintro _ _ ⟨rfl, rfl⟩
  refine tlm ?_
  refine tl_v rfl (o_extract rfl rfl) ?_
  refine tl_v rfl (o_extract rfl rfl) ?_
  refine tla ?_
  refine tla ?_
  refine tl_nil ?_
  refine q_then_n ?_
  refine tc_seq ?_
  refine tc_reg ?_
  refine tlm ?_
  refine tl_c rfl (o_call bd65 rfl (rFromNo_c (m := n) (hno := hno))) ?_
  rintro _ _ ⟨rfl, rfl⟩
  refine tlm ?_
  refine tl_v rfl (o_extract rfl rfl) ?_
  refine tl_v rfl (o_extract rfl rfl) ?_
  refine tla ?_
  refine tla ?_
  refine tl_nil ?_
  refine q_then_n ?_
  refine tc_seq ?_
  refine tc_seq ?_
  refine tc_reg ?_
  refine tlm ?_
  refine tlm ?_
  refine tl_v rfl (o_nei rfl rfl) ?_
  refine tl_nil ?_
  refine q_then_n ?_
  refine tc_cond rfl (fun h => ?_) (fun h => ?_)
  · exfalso; simp at h
  · try simp only [lv1, lv2, lv3, lv4, lv5, lv6, Bool.not_true, Bool.not_false] at h
    refine tc_skip ?_
    refine q_then_n ?_
    refine tc_seq ?_
    refine tc_seq ?_
    refine tc_reg ?_
    refine tlm ?_
    refine tl_v rfl (o_nei rfl rfl) ?_
    refine tl_nil ?_
    refine q_then_n ?_
    refine tc_cond rfl (fun h => ?_) (fun h => ?_)
    · try simp only [lv1, lv2, lv3, lv4, lv5, lv6, Bool.not_true, Bool.not_false] at h
      refine tc_seq ?_
      refine tc_reg ?_
      refine tl_c rfl (o_call bd24 rfl (works_c)) ?_
      rintro _ _ ⟨rfl, rfl⟩
      refine tla ?_
      refine tl_nil ?_
      refine q_then_n ?_
      refine tc_ret ?_
      refine q_then_r ?_
      exact ⟨.bool true, A, res1 rfl rfl, Dr.sat (by repeat (first | with_reducible exact dr_refl | apply dr_keep | apply dr_drop)), rfl, rfl⟩
    · exfalso; simp at h
set_option maxRecDepth 20000 in
set_option maxHeartbeats 4000000 in
theorem SuperFormats_s (A : SP) {n : Nat} {tn af : Int} {fl hcp kc : Nat} {ha ka : Option Addr} {kp : List Int} {hd : List Nat} {rt : Bool} (hrh : Rs A ha (bys hd)) (hhb : ∀ x ∈ hd, x < 256) (hfl : fl < 256) (hht : -9223372036854775808 ≤ tn ∧ tn ≤ 9223372036854775807) (hhl : hd.length ≤ 140737488351232) (hrk : Rs A ka (ints kp)) (hkl : kp.length ≤ 17592186043904) (hkb : ∀ k ∈ kp, k ≤ 9223372036854775807) (haf : -9223372036854775808 ≤ af ∧ af ≤ 9223372036854775807) (hkc : kp.length ≤ kc) {k : Nat} (hk : n = k * 64) (hk0 : 0 < k) (hn : n < 36992) :
    Fn Try.prog 17 #[.agg ([.int .i64 (n : Int), .int .u8 (fl : Nat), .slice ha hd.length hcp, .bool rt, .int .i64 tn] : List Value).toArray, .int .i64 af, .slice ka kp.length kc] (A) (fun r B => r = .bool true ∧ B = A) := by
  refine fn_enterW (args := [.agg ([.int .i64 (n : Int), .int .u8 (fl : Nat), .slice ha hd.length hcp, .bool rt, .int .i64 tn] : List Value).toArray, .int .i64 af, .slice ka kp.length kc]) Try.func17 rfl Try.ntmps17 (by simp) ?_
  refine tc_seq ?_
  refine tc_reg ?_
  refine tl_x rfl (o_box rfl rfl) ?_
  rintro _ _ ⟨b3, rfl, rfl⟩
  refine tla ?_
  refine tl_nil ?_
  refine q_then_n ?_
  refine tc_seq ?_
  refine tc_reg ?_
  refine tl_v rfl (o_loadN (vs := [.int .i64 (n : Int), .int .u8 (fl : Nat), .slice ha hd.length hcp, .bool rt, .int .i64 tn]) a121 sz121 rfl (by repeat (first | with_reducible exact has_here | with_reducible exact has_pt | apply has_left)) (by show 5 ≤ 5; decide) rfl) ?_
  refine tl_c rfl (o_call bd64 rfl (ImBytes_ok (hrh := (by repeat (first | exact hrh | apply Rs.left))) (hhb := hhb) (hfl := hfl) (hht := hht) (hn := by omega) (hhl := hhl))) ?_
  rintro _ _ ⟨a21, c21, xs, rfl, hc21, hxl, hxb, rfl⟩
  refine tla ?_
  refine tl_nil ?_
  refine q_then_n ?_
  refine tc_seq ?_
  refine tc_reg ?_
  refine tlm ?_
  refine tl_c rfl (o_call bd39 rfl (CopyBytes_c (xs := xs))) ?_
  rintro _ _ ⟨u24, c24, rfl, hc24, rfl⟩
  refine tl_c rfl (o_call bd42 rfl (From_c (n := k) (xs := xs))) ?_
  rintro _ _ ⟨d25, rfl, rfl⟩
  refine tlm ?_
  refine tl_v rfl (o_extract rfl rfl) ?_
  refine tl_v rfl (o_extract rfl rfl) ?_
  refine tla ?_
  refine tla ?_
  refine tl_nil ?_
  refine q_then_n ?_
  refine tc_seq ?_
  refine tc_reg ?_
  refine tlm ?_
  refine tl_c rfl (o_call bd65 rfl (rFrom_c (n := k) (xs := xs))) ?_
  rintro _ _ ⟨d30, rfl, rfl⟩
  refine tlm ?_
  refine tl_v rfl (o_extract rfl rfl) ?_
  refine tl_v rfl (o_extract rfl rfl) ?_
  refine tla ?_
  refine tla ?_
  refine tl_nil ?_
  refine q_then_n ?_
  refine tc_seq ?_
  refine tc_seq ?_
  refine tc_reg ?_
  refine tlm ?_
  refine tlm ?_
  refine tl_v rfl (o_nei rfl rfl) ?_
  refine tl_nil ?_
  refine q_then_n ?_
  refine tc_cond rfl (fun h => ?_) (fun h => ?_)
  · exfalso; simp at h
  · try simp only [lv1, lv2, lv3, lv4, lv5, lv6, Bool.not_true, Bool.not_false] at h
    refine tc_skip ?_
    refine q_then_n ?_
    refine tc_seq ?_
    refine tc_seq ?_
    refine tc_reg ?_
    refine tlm ?_
    refine tl_v rfl (o_nei rfl rfl) ?_
    refine tl_nil ?_
    refine q_then_n ?_
    refine tc_cond rfl (fun h => ?_) (fun h => ?_)
    · exfalso; simp at h
    · try simp only [lv1, lv2, lv3, lv4, lv5, lv6, Bool.not_true, Bool.not_false] at h
      refine tc_skip ?_
      refine q_then_n ?_
      refine tc_seq ?_
      refine tc_reg ?_
      refine tlm ?_
      refine tlm ?_
      refine tl_v rfl (o_bS (l := [.int .i64 af, .slice ka kp.length kc]) (pv_cons (by conv => lhs; whnf) (pv_cons (by conv => lhs; whnf) pv_nil)) Try.underlying72 z72 (pl72 Try.underlying72) rfl) ?_
      refine tl_x rfl (o_alloc z72 rfl) ?_
      rintro _ _ ⟨b12, rfl, rfl⟩
      refine tl_u rfl (o_stUN (l' := [.int .i64 af, .slice ka kp.length kc]) rfl (by repeat (first | with_reducible exact upd_here | with_reducible exact upd_pt | apply upd_left)) sz72 rfl rfl rfl (by show 2 ≤ 2; decide) rfl) ?_
      refine tl_nil ?_
      refine q_then_n ?_
      refine tc_seq ?_
      refine tc_seq ?_
      refine tc_pre (A' := A * Dev d25 (fromS k xs) * RDev d30 (fromS k xs) * pt b12 (cl [.int .i64 af, .slice ka kp.length kc] 72)) (Dr.sat (by repeat (first | with_reducible exact dr_refl | apply dr_keep | apply dr_drop))) ?_
      refine tc_regh (S := A * pt b12 (cl [.int .i64 af, .slice ka kp.length kc] 72)) mo (by repeat (first | with_reducible exact dr_refl | apply dr_keep | apply dr_drop)) ?_
      show TH _ _ _ _ _ 13 #[false, false, false, false, false, false, false, false, false, false, false, false, false] _ _
      refine th_take (i := 0) (listed' := #[true, false, false, false, false, false, false, false, false, false, false, false, false]) rfl (by kernel_rfl) (by kernel_rfl) (by kernel_rfl) rfl rfl (o_move (by conv => lhs; whnf)) ?_
      refine th_take (i := 1) (listed' := #[true, true, false, false, false, false, false, false, false, false, false, false, false]) rfl (by kernel_rfl) (by kernel_rfl) (by kernel_rfl) rfl rfl (o_gtr rfl rfl) ?_
      refine th_take (i := 2) (listed' := #[true, true, true, false, false, false, false, false, false, false, false, false, false]) rfl (by kernel_rfl) (by kernel_rfl) (by kernel_rfl) rfl rfl (o_move (by conv => lhs; whnf)) ?_
      refine th_bool (d := 44) rfl (fun h => ?_) (fun h => ?_)
      · try simp only [lv1, lv2, lv3, lv4, lv5, lv6, Bool.not_true, Bool.not_false] at h
        refine th_take (i := 3) (listed' := #[true, true, true, true, false, false, false, false, false, false, false, false, false]) rfl (by kernel_rfl) (by kernel_rfl) (by kernel_rfl) rfl rfl (o_move (by conv => lhs; whnf)) ?_
        refine th_take (i := 4) (listed' := #[true, true, true, true, true, false, false, false, false, false, false, false, false]) rfl (by kernel_rfl) (by kernel_rfl) (by kernel_rfl) rfl rfl (o_loadN (vs := [.int .i64 af, .slice ka kp.length kc]) a72 sz72 rfl (by repeat (first | with_reducible exact has_here | with_reducible exact has_pt | apply has_left)) (by show 2 ≤ 2; decide) rfl) ?_
        refine th_take (i := 7) (listed' := #[true, true, true, true, true, false, false, true, false, false, false, false, false]) rfl (by kernel_rfl) (by kernel_rfl) (by kernel_rfl) rfl rfl (o_move (by conv => lhs; whnf)) ?_
        refine th_take (i := 8) (listed' := #[true, true, true, true, true, false, false, true, true, false, false, false, false]) rfl (by kernel_rfl) (by kernel_rfl) (by kernel_rfl) rfl rfl (o_loadN (vs := [.int .i64 af, .slice ka kp.length kc]) a72 sz72 rfl (by repeat (first | with_reducible exact has_here | with_reducible exact has_pt | apply has_left)) (by show 2 ≤ 2; decide) rfl) ?_
        refine th_two (i := 5) (j := 9) (by kernel_rfl) ?_ ?_
        · skip
          refine oh_x (i := 5) (listed' := #[true, true, true, true, true, true, false, true, true, false, false, false, false]) rfl rfl rfl (o_buildSliceK (k := 2) (l := [.int .i64 af, .slice ka kp.length kc]) Try.underlying74 sz72 z72 rfl rfl (by decide)) ?_
          rintro _ _ ⟨b47, rfl, rfl⟩
          refine ⟨by repeat (first | with_reducible exact dr_refl | apply dr_keep | apply dr_drop), ?_⟩
          refine th_two (i := 6) (j := 9) (by kernel_rfl) ?_ ?_
          · skip
            refine oh_c (i := 6) (listed' := #[true, true, true, true, true, true, true, true, true, false, false, false, false]) rfl rfl rfl (o_call bd44 rfl (Arm_c (s := fromS k xs) (kvs := [.slice ka kp.length kc]) (ars := [(af, kp)]) (hm := rfl) (hr := ⟨by repeat (first | assumption | exact rs_sl | exact rs_pt0 | exact rs_none | apply Rs.left), rfl, fun i h => by have h0 : i = 0 := (by simpa using h); subst h0; exact ⟨_, _, rfl, (by show kp.length ≤ _; exact hkc), (by repeat (first | exact hrk | apply Rs.left))⟩⟩) (hk := fun x hx => by simp only [List.mem_singleton] at hx; subst hx; exact ⟨by constructor <;> (show _ ≤ _) <;> omega, by show kp.length ≤ _; omega, hkb⟩))) ?_
            rintro _ _ ⟨e48, s48, hs48, rfl, rfl⟩
            refine ⟨by repeat (first | with_reducible exact dr_refl | apply dr_keep | apply dr_drop), ?_⟩
            refine th_one (i := 9) (by kernel_rfl) ?_
            refine oh_x (i := 9) (listed' := #[true, true, true, true, true, true, true, true, true, true, false, false, false]) rfl rfl rfl (o_buildSliceK (k := 2) (l := [.int .i64 af, .slice ka kp.length kc]) Try.underlying74 sz72 z72 rfl rfl (by decide)) ?_
            rintro _ _ ⟨b51, rfl, rfl⟩
            refine ⟨by repeat (first | with_reducible exact dr_refl | apply dr_keep | apply dr_drop), ?_⟩
            refine th_one (i := 10) (by kernel_rfl) ?_
            refine oh_c (i := 10) (listed' := #[true, true, true, true, true, true, true, true, true, true, true, false, false]) rfl rfl rfl (o_call bd77 rfl (rArm_c (s := fromS k xs) (kvs := [.slice ka kp.length kc]) (ars := [(af, kp)]) (hm := rfl) (hr := ⟨by repeat (first | assumption | exact rs_sl | exact rs_pt0 | exact rs_none | apply Rs.left), rfl, fun i h => by have h0 : i = 0 := (by simpa using h); subst h0; exact ⟨_, _, rfl, (by show kp.length ≤ _; exact hkc), (by repeat (first | exact hrk | apply Rs.left))⟩⟩) (hk := fun x hx => by simp only [List.mem_singleton] at hx; subst hx; exact ⟨by constructor <;> (show _ ≤ _) <;> omega, by show kp.length ≤ _; omega, hkb⟩))) ?_
            rintro _ _ ⟨e52, s52, hs52, rfl, rfl⟩
            refine ⟨by repeat (first | with_reducible exact dr_refl | apply dr_keep | apply dr_drop), ?_⟩
            obtain ⟨rfl, rfl⟩ : e48 = e52 ∧ s48 = s52 := by rw [hs48] at hs52; simpa using hs52
            refine th_take (i := 11) (listed' := #[true, true, true, true, true, true, true, true, true, true, true, true, false]) rfl (by kernel_rfl) (by kernel_rfl) (by kernel_rfl) rfl rfl (o_nei rfl rfl) ?_
            refine th_take (i := 12) (listed' := #[true, true, true, true, true, true, true, true, true, true, true, true, true]) rfl (by kernel_rfl) (by kernel_rfl) (by kernel_rfl) rfl rfl (o_pick_t rfl (by conv => lhs; whnf)) ?_
            refine th_done (by kernel_rfl) ?_
            refine q_then_n ?_
            refine tc_cond rfl (fun h => ?_) (fun h => ?_)
            · exfalso; simp at h
            · try simp only [lv1, lv2, lv3, lv4, lv5, lv6, Bool.not_true, Bool.not_false] at h
              refine tc_skip ?_
              refine q_then_n ?_
              refine tc_seq ?_
              refine tc_pre (A' := A * Dev d25 s48 * RDev d30 s48) (Dr.sat (by repeat (first | with_reducible exact dr_refl | apply dr_keep | apply dr_drop))) ?_
              have hs48q : s48.off = false ∧ s48.ls = (fromS k xs).ls := by first | exact ha0 | exact armS_any (from_live k xs).1 (from_live k xs).2 hs48
              have hl48 : s48.ls.length = k := by rw [hs48q.2]; exact from_lslen k xs
              refine tc_reg ?_
              refine tlm ?_
              refine tl_c rfl (o_call bd75 rfl (Format_no (s := s48) (n := n) (hoff := hs48q.1) (hlen := by omega) (hn := by omega))) ?_
              rintro _ _ ⟨rfl, rfl⟩
              refine tlm ?_
              refine tl_v rfl (o_extract rfl rfl) ?_
              refine tl_v rfl (o_extract rfl rfl) ?_
              refine tl_x rfl (o_alloc z23 rfl) ?_
              rintro _ _ ⟨b13, rfl, rfl⟩
              refine tl_u rfl (o_stUN (l' := ints [0, 0, 0, 0, 0]) rfl (by repeat (first | with_reducible exact upd_here | with_reducible exact upd_pt | apply upd_left)) sz23 rfl rfl rfl (by show 5 ≤ 5; decide) rfl) ?_
              refine tla ?_
              refine tl_nil ?_
              refine q_then_n ?_
              refine tc_seq ?_
              refine tc_reg ?_
              refine tlm ?_
              refine tl_c rfl (o_call bd78 rfl (rFormat_no (s := s48) (n := n) (hoff := hs48q.1) (hlen := by omega) (hn := by omega))) ?_
              rintro _ _ ⟨rfl, rfl⟩
              refine tlm ?_
              refine tl_v rfl (o_extract rfl rfl) ?_
              refine tl_v rfl (o_extract rfl rfl) ?_
              refine tl_x rfl (o_alloc z23 rfl) ?_
              rintro _ _ ⟨b14, rfl, rfl⟩
              refine tl_u rfl (o_stUN (l' := ints [0, 0, 0, 0, 0]) rfl (by repeat (first | with_reducible exact upd_here | with_reducible exact upd_pt | apply upd_left)) sz23 rfl rfl rfl (by show 5 ≤ 5; decide) rfl) ?_
              refine tla ?_
              refine tl_nil ?_
              refine q_then_n ?_
              refine tc_seq ?_
              refine tc_seq ?_
              refine tc_reg ?_
              refine tl_v rfl (o_loadN (vs := ints [0, 0, 0, 0, 0]) a23 sz23 rfl (by repeat (first | with_reducible exact has_here | with_reducible exact has_pt | apply has_left)) (by show 5 ≤ 5; decide) rfl) ?_
              refine tl_v rfl (o_loadN (vs := ints [0, 0, 0, 0, 0]) a23 sz23 rfl (by repeat (first | with_reducible exact has_here | with_reducible exact has_pt | apply has_left)) (by show 5 ≤ 5; decide) rfl) ?_
              refine tl_v rfl (o_nest (k := 5) (l := [0, 0, 0, 0, 0]) (m := [0, 0, 0, 0, 0]) Try.underlying23 (by kernel_rfl) (by kernel_rfl) (by kernel_rfl) rfl rfl rfl rfl) ?_
              refine tlm ?_
              refine tl_bool (d := 68) rfl (fun h => ?_) (fun h => ?_)
              · exfalso; simp at h
              · try simp only [lv1, lv2, lv3, lv4, lv5, lv6, Bool.not_true, Bool.not_false] at h
                refine tlm ?_
                refine tlm ?_
                refine tl_v rfl (o_nei rfl rfl) ?_
                refine tl_v rfl (o_pick_f rfl (by conv => lhs; whnf)) ?_
                refine tlm ?_
                refine tl_bool (d := 73) rfl (fun h => ?_) (fun h => ?_)
                · exfalso; simp at h
                · try simp only [lv1, lv2, lv3, lv4, lv5, lv6, Bool.not_true, Bool.not_false] at h
                  refine tlm ?_
                  refine tl_c rfl (o_call bd41 rfl (Ops_c (s := s48))) ?_
                  rintro _ _ ⟨rfl, rfl⟩
                  refine tlm ?_
                  refine tl_c rfl (o_call bd69 rfl (rOps_c (s := s48))) ?_
                  rintro _ _ ⟨rfl, rfl⟩
                  refine tl_v rfl (o_nei rfl rfl) ?_
                  refine tl_v rfl (o_pick_f rfl (by conv => lhs; whnf)) ?_
                  refine tlm ?_
                  refine tl_bool (d := 80) rfl (fun h => ?_) (fun h => ?_)
                  · exfalso; simp at h
                  · try simp only [lv1, lv2, lv3, lv4, lv5, lv6, Bool.not_true, Bool.not_false] at h
                    refine tlm ?_
                    refine tl_c rfl (o_call bd31 rfl (Off_c (s := s48))) ?_
                    rintro _ _ ⟨rfl, rfl⟩
                    refine tlm ?_
                    refine tl_c rfl (o_call bd79 rfl (rOff_c (s := s48))) ?_
                    rintro _ _ ⟨rfl, rfl⟩
                    refine tl_v rfl (o_neb Try.underlying4 rfl rfl) ?_
                    refine tl_v rfl (o_pick_f rfl (by conv => lhs; whnf)) ?_
                    refine tlm ?_
                    refine tl_bool (d := 87) rfl (fun h => ?_) (fun h => ?_)
                    · exfalso; simp at h
                    · try simp only [lv1, lv2, lv3, lv4, lv5, lv6, Bool.not_true, Bool.not_false] at h
                      refine tlm ?_
                      refine tl_c rfl (o_call bd32 rfl (Wake_c (s := s48))) ?_
                      rintro _ _ ⟨rfl, rfl⟩
                      refine tlm ?_
                      refine tl_c rfl (o_call bd80 rfl (rWake_c (s := s48))) ?_
                      rintro _ _ ⟨rfl, rfl⟩
                      refine tl_v rfl (o_nei rfl rfl) ?_
                      refine tl_v rfl (o_pick_f rfl (by conv => lhs; whnf)) ?_
                      refine tl_nil ?_
                      refine q_then_n ?_
                      refine tc_cond rfl (fun h => ?_) (fun h => ?_)
                      · exfalso; simp at h
                      · try simp only [lv1, lv2, lv3, lv4, lv5, lv6, Bool.not_true, Bool.not_false] at h
                        refine tc_skip ?_
                        refine q_then_n ?_
                        refine tc_seq ?_
                        refine tc_seq ?_
                        obtain ⟨s3, hs3⟩ : ∃ s3, s3 = { s48 with off := false } := ⟨_, rfl⟩
                        rw [← hs3]
                        refine tc_have (fun _ _ h => wfR_ct (r := d30) (s := s3) (by repeat (first | with_reducible exact ct_here | apply ct_left)) h) fun hw3 => ?_
                        have hil := imgS_len hw3
                        have htop3 := hw3.top
                        obtain ⟨q0, q1, q2, q3, q4, hq⟩ := five_i (rdA_len s3)
                        obtain ⟨e0, he0⟩ : ∃ e0, e0 = (rdA s3).2 := ⟨_, rfl⟩
                        have hrd : rdA s3 = ([q0, q1, q2, q3, q4], e0) := by rw [← hq, he0]
                        obtain ⟨w6, hw6⟩ : ∃ w6, w6 = (rootA s3).1 := ⟨_, rfl⟩
                        obtain ⟨e6, he6⟩ : ∃ e6, e6 = (rootA s3).2 := ⟨_, rfl⟩
                        have hroot : rootA s3 = (w6, e6) := by rw [hw6, he6]
                        refine tc_reg ?_
                        refine tla ?_
                        refine tl_nil ?_
                        refine q_then_n ?_
                        refine tc_block ?_
                        refine tc_loop (fun kk ρ BB => ∃ (i : Nat), (i ≤ 4) ∧ kk = 4 - i ∧ ρ 15 = .int .i64 (i : Nat) ∧ ρ 8 = .pointer (some ⟨d25, 0, none⟩) ∧ ρ 10 = .pointer (some ⟨d30, 0, none⟩) ∧ ρ 13 = .pointer (some ⟨b13, 0, none⟩) ∧ ρ 14 = .pointer (some ⟨b14, 0, none⟩) ∧ BB = A * Dev d25 s3 * RDev d30 s3 * pt b13 (cl (ints [0, 0, 0, 0, 0]) 23) * pt b14 (cl (ints [0, 0, 0, 0, 0]) 23)) (m := 4 - (0)) ?_ ?_
                        · exact ⟨0, by omega, rfl, rfl, rfl, rfl, rfl, rfl, rfl⟩
                        · intro k ρ B hI
                          obtain ⟨i, hp0, hkk1, hE15, hE8, hE10, hE13, hE14, rfl⟩ := hI
                          refine tc_env (d := 15) hE15 ?_
                          refine tc_env (d := 8) hE8 ?_
                          refine tc_env (d := 10) hE10 ?_
                          refine tc_env (d := 13) hE13 ?_
                          refine tc_env (d := 14) hE14 ?_
                          clear hE15 hE8 hE10 hE13 hE14
                          refine tc_seq ?_
                          refine tc_seq ?_
                          refine tc_reg ?_
                          refine tlm ?_
                          refine tl_v rfl (o_lss rfl rfl) ?_
                          refine tl_nil ?_
                          refine q_then_n ?_
                          refine tc_cond rfl (fun h => ?_) (fun h => ?_)
                          · try simp only [lv1, lv2, lv3, lv4, lv5, lv6, Bool.not_true, Bool.not_false] at h
                            refine tc_skip ?_
                            refine q_then_n ?_
                            refine tc_seq ?_
                            refine tc_block ?_
                            refine tc_seq ?_
                            refine tc_reg ?_
                            refine tlm ?_
                            refine tlm ?_
                            refine tl_c rfl (o_call bd35 rfl (Contents_any (s := s3) (q := i))) ?_
                            rintro _ _ ⟨a100, c100, vs100, rfl, hc100, rfl⟩
                            refine tlm ?_
                            refine tlm ?_
                            refine tl_c rfl (o_call bd82 rfl (rContents_any (s := s3) (q := i))) ?_
                            rintro _ _ ⟨a103, c103, vs103, rfl, hc103, rfl⟩
                            have hq := ctS_rows hw3 i
                            refine tl_have (fun _ _ h => rwF_parts h) fun hf2 => ?_
                            refine tl_have (fun _ _ h => rwF_parts h.left.left) fun hf1 => ?_
                            refine tl_c rfl (o_call bd81 rfl (EqRows_c (ls := ctS i s3) (ms := ctS i s3) (vs := vs100) (ws := vs103) (h1 := hf1.left.left) (h2 := hf2) (hn := rfl) (hm := rfl) (hnl := by omega) (hml := by omega) (hl1 := fun l hl => by have := hq.2 l hl; omega) (hl2 := fun l hl => by have := hq.2 l hl; omega))) ?_
                            rintro _ _ ⟨rfl, rfl⟩
                            refine tl_env (d := 104) (v := .bool true) (congrArg Value.bool (decide_eq_true rfl)) ?_
                            refine tl_v rfl (o_not rfl) ?_
                            refine tl_nil ?_
                            refine q_then_n ?_
                            refine tc_cond rfl (fun h => ?_) (fun h => ?_)
                            · exfalso; simp at h
                            · try simp only [lv1, lv2, lv3, lv4, lv5, lv6, Bool.not_true, Bool.not_false] at h
                              refine tc_skip ?_
                              refine q_block_n (q_then_n ?_)
                              refine tc_pre (A' := A * Dev d25 s3 * RDev d30 s3 * pt b13 (cl (ints [0, 0, 0, 0, 0]) 23) * pt b14 (cl (ints [0, 0, 0, 0, 0]) 23)) (Dr.sat (by repeat (first | with_reducible exact dr_refl | apply dr_keep | apply dr_drop))) ?_
                              refine tc_reg ?_
                              refine tlm ?_
                              refine tl_v rfl (by first | exact o_addI rfl rfl (by omega) | exact o_add rfl rfl) ?_
                              refine tla ?_
                              refine tl_nil ?_
                              refine q_then_n ?_
                              exact ⟨_, by omega, i + 1, by omega, rfl, rfl, rfl, rfl, rfl, rfl, rfl⟩
                          · try simp only [lv1, lv2, lv3, lv4, lv5, lv6, Bool.not_true, Bool.not_false] at h
                            refine tc_exit ?_
                            refine q_then_e (q_then_e (q_block_x (q_then_n ?_)))
                            refine tc_seq ?_
                            refine tc_reg ?_
                            refine tlm ?_
                            refine tl_c rfl (o_call bd48 rfl (Read_5 (s := s3) (by repeat (first | with_reducible exact ct_here | apply ct_left)) hrd)) ?_
                            rintro _ _ ⟨rfl, rfl⟩
                            refine tlm ?_
                            refine tl_v rfl (o_extract rfl rfl) ?_
                            refine tl_v rfl (o_extract rfl rfl) ?_
                            refine tl_u rfl (o_stUN (l' := ints [q0, q1, q2, q3, q4]) rfl (by repeat (first | with_reducible exact upd_here | with_reducible exact upd_pt | apply upd_left)) sz23 rfl rfl rfl (by show 5 ≤ 5; decide) rfl) ?_
                            refine tla ?_
                            refine tl_nil ?_
                            refine q_then_n ?_
                            refine tc_seq ?_
                            refine tc_reg ?_
                            refine tlm ?_
                            refine tl_c rfl (o_call bd66 rfl (rRead_5 (s := s3) (by repeat (first | with_reducible exact ct_here | apply ct_left)) hrd)) ?_
                            rintro _ _ ⟨rfl, rfl⟩
                            refine tlm ?_
                            refine tl_v rfl (o_extract rfl rfl) ?_
                            refine tl_v rfl (o_extract rfl rfl) ?_
                            refine tl_u rfl (o_stUN (l' := ints [q0, q1, q2, q3, q4]) rfl (by repeat (first | with_reducible exact upd_here | with_reducible exact upd_pt | apply upd_left)) sz23 rfl rfl rfl (by show 5 ≤ 5; decide) rfl) ?_
                            refine tla ?_
                            refine tl_nil ?_
                            refine q_then_n ?_
                            refine tc_seq ?_
                            refine tc_reg ?_
                            refine tlm ?_
                            refine tl_c rfl (o_call bd67 rfl (Root_5 (s := s3) (by repeat (first | with_reducible exact ct_here | apply ct_left)) hroot)) ?_
                            rintro _ _ ⟨rfl, rfl⟩
                            refine tlm ?_
                            refine tl_v rfl (o_extract rfl rfl) ?_
                            refine tl_v rfl (o_extract rfl rfl) ?_
                            refine tla ?_
                            refine tla ?_
                            refine tl_nil ?_
                            refine q_then_n ?_
                            refine tc_seq ?_
                            refine tc_reg ?_
                            refine tlm ?_
                            refine tl_c rfl (o_call bd68 rfl (rRoot_5 (s := s3) (by repeat (first | with_reducible exact ct_here | apply ct_left)) hroot)) ?_
                            rintro _ _ ⟨rfl, rfl⟩
                            refine tlm ?_
                            refine tl_v rfl (o_extract rfl rfl) ?_
                            refine tl_v rfl (o_extract rfl rfl) ?_
                            refine tla ?_
                            refine tla ?_
                            refine tl_nil ?_
                            refine q_then_n ?_
                            refine tc_seq ?_
                            refine tc_reg ?_
                            refine tl_v rfl (o_loadN (vs := ints [q0, q1, q2, q3, q4]) a23 sz23 rfl (by repeat (first | with_reducible exact has_here | with_reducible exact has_pt | apply has_left)) (by show 5 ≤ 5; decide) rfl) ?_
                            refine tl_v rfl (o_loadN (vs := ints [q0, q1, q2, q3, q4]) a23 sz23 rfl (by repeat (first | with_reducible exact has_here | with_reducible exact has_pt | apply has_left)) (by show 5 ≤ 5; decide) rfl) ?_
                            refine tl_v rfl (o_eqst (k := 5) (l := [q0, q1, q2, q3, q4]) (m := [q0, q1, q2, q3, q4]) Try.underlying23 (by kernel_rfl) (by kernel_rfl) (by kernel_rfl) rfl rfl rfl rfl) ?_
                            refine tlm ?_
                            refine tl_bool (d := 129) rfl (fun h => ?_) (fun h => ?_)
                            · try simp only [lv1, lv2, lv3, lv4, lv5, lv6, Bool.not_true, Bool.not_false] at h
                              refine tlm ?_
                              refine tlm ?_
                              refine tl_v rfl (o_eqi rfl rfl) ?_
                              refine tl_v rfl (o_pick_t rfl (by conv => lhs; whnf)) ?_
                              refine tlm ?_
                              refine tl_bool (d := 134) rfl (fun h => ?_) (fun h => ?_)
                              · try simp only [lv1, lv2, lv3, lv4, lv5, lv6, Bool.not_true, Bool.not_false] at h
                                refine tlm ?_
                                refine tlm ?_
                                refine tl_v rfl (o_eqi rfl rfl) ?_
                                refine tl_v rfl (o_pick_t rfl (by conv => lhs; whnf)) ?_
                                refine tlm ?_
                                refine tl_bool (d := 139) rfl (fun h => ?_) (fun h => ?_)
                                · try simp only [lv1, lv2, lv3, lv4, lv5, lv6, Bool.not_true, Bool.not_false] at h
                                  refine tlm ?_
                                  refine tlm ?_
                                  refine tl_v rfl (o_eqi rfl rfl) ?_
                                  refine tl_v rfl (o_pick_t rfl (by conv => lhs; whnf)) ?_
                                  refine tlm ?_
                                  refine tl_bool (d := 144) rfl (fun h => ?_) (fun h => ?_)
                                  · try simp only [lv1, lv2, lv3, lv4, lv5, lv6, Bool.not_true, Bool.not_false] at h
                                    refine tlm ?_
                                    refine tl_c rfl (o_call bd33 rfl (Image_c (s := s3))) ?_
                                    rintro _ _ ⟨a146, c146, rfl, hc146, rfl⟩
                                    refine tlm ?_
                                    refine tl_c rfl (o_call bd70 rfl (rImage_c (s := s3))) ?_
                                    rintro _ _ ⟨a148, c148, rfl, hc148, rfl⟩
                                    refine tl_c rfl (o_call bd22 rfl (EqBytes_c (xs := imgS s3) (ys := imgS s3) (hx := hil) (hy := hil))) ?_
                                    rintro _ _ ⟨rfl, rfl⟩
                                    refine tl_env (d := 149) (v := .bool true) (congrArg Value.bool (decide_eq_true rfl)) ?_
                                    refine tl_v rfl (o_pick_t rfl (by conv => lhs; whnf)) ?_
                                    refine tlm ?_
                                    refine tl_bool (d := 151) rfl (fun h => ?_) (fun h => ?_)
                                    · try simp only [lv1, lv2, lv3, lv4, lv5, lv6, Bool.not_true, Bool.not_false] at h
                                      refine tl_c rfl (o_call bd24 rfl (works_c)) ?_
                                      rintro _ _ ⟨rfl, rfl⟩
                                      refine tl_v rfl (o_pick_t rfl (by conv => lhs; whnf)) ?_
                                      refine tla ?_
                                      refine tl_nil ?_
                                      refine q_then_n ?_
                                      refine tc_ret ?_
                                      exact ⟨.bool true, A, res1 rfl rfl, Dr.sat (by repeat (first | with_reducible exact dr_refl | apply dr_keep | apply dr_drop)), rfl, rfl⟩
                                    · exfalso; simp at h
                                  · exfalso; simp at h
                                · exfalso; simp at h
                              · exfalso; simp at h
                            · exfalso; simp at h
          · skip
            refine oh_x (i := 9) (listed' := #[true, true, true, true, true, true, false, true, true, true, false, false, false]) rfl rfl rfl (o_buildSliceK (k := 2) (l := [.int .i64 af, .slice ka kp.length kc]) Try.underlying74 sz72 z72 rfl rfl (by decide)) ?_
            rintro _ _ ⟨b51, rfl, rfl⟩
            refine ⟨by repeat (first | with_reducible exact dr_refl | apply dr_keep | apply dr_drop), ?_⟩
            refine th_one (i := 6) (by kernel_rfl) ?_
            refine oh_c (i := 6) (listed' := #[true, true, true, true, true, true, true, true, true, true, false, false, false]) rfl rfl rfl (o_call bd44 rfl (Arm_c (s := fromS k xs) (kvs := [.slice ka kp.length kc]) (ars := [(af, kp)]) (hm := rfl) (hr := ⟨by repeat (first | assumption | exact rs_sl | exact rs_pt0 | exact rs_none | apply Rs.left), rfl, fun i h => by have h0 : i = 0 := (by simpa using h); subst h0; exact ⟨_, _, rfl, (by show kp.length ≤ _; exact hkc), (by repeat (first | exact hrk | apply Rs.left))⟩⟩) (hk := fun x hx => by simp only [List.mem_singleton] at hx; subst hx; exact ⟨by constructor <;> (show _ ≤ _) <;> omega, by show kp.length ≤ _; omega, hkb⟩))) ?_
            rintro _ _ ⟨e48, s48, hs48, rfl, rfl⟩
            refine ⟨by repeat (first | with_reducible exact dr_refl | apply dr_keep | apply dr_drop), ?_⟩
            refine th_one (i := 10) (by kernel_rfl) ?_
            refine oh_c (i := 10) (listed' := #[true, true, true, true, true, true, true, true, true, true, true, false, false]) rfl rfl rfl (o_call bd77 rfl (rArm_c (s := fromS k xs) (kvs := [.slice ka kp.length kc]) (ars := [(af, kp)]) (hm := rfl) (hr := ⟨by repeat (first | assumption | exact rs_sl | exact rs_pt0 | exact rs_none | apply Rs.left), rfl, fun i h => by have h0 : i = 0 := (by simpa using h); subst h0; exact ⟨_, _, rfl, (by show kp.length ≤ _; exact hkc), (by repeat (first | exact hrk | apply Rs.left))⟩⟩) (hk := fun x hx => by simp only [List.mem_singleton] at hx; subst hx; exact ⟨by constructor <;> (show _ ≤ _) <;> omega, by show kp.length ≤ _; omega, hkb⟩))) ?_
            rintro _ _ ⟨e52, s52, hs52, rfl, rfl⟩
            refine ⟨by repeat (first | with_reducible exact dr_refl | apply dr_keep | apply dr_drop), ?_⟩
            obtain ⟨rfl, rfl⟩ : e48 = e52 ∧ s48 = s52 := by rw [hs48] at hs52; simpa using hs52
            refine th_take (i := 11) (listed' := #[true, true, true, true, true, true, true, true, true, true, true, true, false]) rfl (by kernel_rfl) (by kernel_rfl) (by kernel_rfl) rfl rfl (o_nei rfl rfl) ?_
            refine th_take (i := 12) (listed' := #[true, true, true, true, true, true, true, true, true, true, true, true, true]) rfl (by kernel_rfl) (by kernel_rfl) (by kernel_rfl) rfl rfl (o_pick_t rfl (by conv => lhs; whnf)) ?_
            refine th_done (by kernel_rfl) ?_
            refine q_then_n ?_
            refine tc_cond rfl (fun h => ?_) (fun h => ?_)
            · exfalso; simp at h
            · try simp only [lv1, lv2, lv3, lv4, lv5, lv6, Bool.not_true, Bool.not_false] at h
              refine tc_skip ?_
              refine q_then_n ?_
              refine tc_seq ?_
              refine tc_pre (A' := A * Dev d25 s48 * RDev d30 s48) (Dr.sat (by repeat (first | with_reducible exact dr_refl | apply dr_keep | apply dr_drop))) ?_
              have hs48q : s48.off = false ∧ s48.ls = (fromS k xs).ls := by first | exact ha0 | exact armS_any (from_live k xs).1 (from_live k xs).2 hs48
              have hl48 : s48.ls.length = k := by rw [hs48q.2]; exact from_lslen k xs
              refine tc_reg ?_
              refine tlm ?_
              refine tl_c rfl (o_call bd75 rfl (Format_no (s := s48) (n := n) (hoff := hs48q.1) (hlen := by omega) (hn := by omega))) ?_
              rintro _ _ ⟨rfl, rfl⟩
              refine tlm ?_
              refine tl_v rfl (o_extract rfl rfl) ?_
              refine tl_v rfl (o_extract rfl rfl) ?_
              refine tl_x rfl (o_alloc z23 rfl) ?_
              rintro _ _ ⟨b13, rfl, rfl⟩
              refine tl_u rfl (o_stUN (l' := ints [0, 0, 0, 0, 0]) rfl (by repeat (first | with_reducible exact upd_here | with_reducible exact upd_pt | apply upd_left)) sz23 rfl rfl rfl (by show 5 ≤ 5; decide) rfl) ?_
              refine tla ?_
              refine tl_nil ?_
              refine q_then_n ?_
              refine tc_seq ?_
              refine tc_reg ?_
              refine tlm ?_
              refine tl_c rfl (o_call bd78 rfl (rFormat_no (s := s48) (n := n) (hoff := hs48q.1) (hlen := by omega) (hn := by omega))) ?_
              rintro _ _ ⟨rfl, rfl⟩
              refine tlm ?_
              refine tl_v rfl (o_extract rfl rfl) ?_
              refine tl_v rfl (o_extract rfl rfl) ?_
              refine tl_x rfl (o_alloc z23 rfl) ?_
              rintro _ _ ⟨b14, rfl, rfl⟩
              refine tl_u rfl (o_stUN (l' := ints [0, 0, 0, 0, 0]) rfl (by repeat (first | with_reducible exact upd_here | with_reducible exact upd_pt | apply upd_left)) sz23 rfl rfl rfl (by show 5 ≤ 5; decide) rfl) ?_
              refine tla ?_
              refine tl_nil ?_
              refine q_then_n ?_
              refine tc_seq ?_
              refine tc_seq ?_
              refine tc_reg ?_
              refine tl_v rfl (o_loadN (vs := ints [0, 0, 0, 0, 0]) a23 sz23 rfl (by repeat (first | with_reducible exact has_here | with_reducible exact has_pt | apply has_left)) (by show 5 ≤ 5; decide) rfl) ?_
              refine tl_v rfl (o_loadN (vs := ints [0, 0, 0, 0, 0]) a23 sz23 rfl (by repeat (first | with_reducible exact has_here | with_reducible exact has_pt | apply has_left)) (by show 5 ≤ 5; decide) rfl) ?_
              refine tl_v rfl (o_nest (k := 5) (l := [0, 0, 0, 0, 0]) (m := [0, 0, 0, 0, 0]) Try.underlying23 (by kernel_rfl) (by kernel_rfl) (by kernel_rfl) rfl rfl rfl rfl) ?_
              refine tlm ?_
              refine tl_bool (d := 68) rfl (fun h => ?_) (fun h => ?_)
              · exfalso; simp at h
              · try simp only [lv1, lv2, lv3, lv4, lv5, lv6, Bool.not_true, Bool.not_false] at h
                refine tlm ?_
                refine tlm ?_
                refine tl_v rfl (o_nei rfl rfl) ?_
                refine tl_v rfl (o_pick_f rfl (by conv => lhs; whnf)) ?_
                refine tlm ?_
                refine tl_bool (d := 73) rfl (fun h => ?_) (fun h => ?_)
                · exfalso; simp at h
                · try simp only [lv1, lv2, lv3, lv4, lv5, lv6, Bool.not_true, Bool.not_false] at h
                  refine tlm ?_
                  refine tl_c rfl (o_call bd41 rfl (Ops_c (s := s48))) ?_
                  rintro _ _ ⟨rfl, rfl⟩
                  refine tlm ?_
                  refine tl_c rfl (o_call bd69 rfl (rOps_c (s := s48))) ?_
                  rintro _ _ ⟨rfl, rfl⟩
                  refine tl_v rfl (o_nei rfl rfl) ?_
                  refine tl_v rfl (o_pick_f rfl (by conv => lhs; whnf)) ?_
                  refine tlm ?_
                  refine tl_bool (d := 80) rfl (fun h => ?_) (fun h => ?_)
                  · exfalso; simp at h
                  · try simp only [lv1, lv2, lv3, lv4, lv5, lv6, Bool.not_true, Bool.not_false] at h
                    refine tlm ?_
                    refine tl_c rfl (o_call bd31 rfl (Off_c (s := s48))) ?_
                    rintro _ _ ⟨rfl, rfl⟩
                    refine tlm ?_
                    refine tl_c rfl (o_call bd79 rfl (rOff_c (s := s48))) ?_
                    rintro _ _ ⟨rfl, rfl⟩
                    refine tl_v rfl (o_neb Try.underlying4 rfl rfl) ?_
                    refine tl_v rfl (o_pick_f rfl (by conv => lhs; whnf)) ?_
                    refine tlm ?_
                    refine tl_bool (d := 87) rfl (fun h => ?_) (fun h => ?_)
                    · exfalso; simp at h
                    · try simp only [lv1, lv2, lv3, lv4, lv5, lv6, Bool.not_true, Bool.not_false] at h
                      refine tlm ?_
                      refine tl_c rfl (o_call bd32 rfl (Wake_c (s := s48))) ?_
                      rintro _ _ ⟨rfl, rfl⟩
                      refine tlm ?_
                      refine tl_c rfl (o_call bd80 rfl (rWake_c (s := s48))) ?_
                      rintro _ _ ⟨rfl, rfl⟩
                      refine tl_v rfl (o_nei rfl rfl) ?_
                      refine tl_v rfl (o_pick_f rfl (by conv => lhs; whnf)) ?_
                      refine tl_nil ?_
                      refine q_then_n ?_
                      refine tc_cond rfl (fun h => ?_) (fun h => ?_)
                      · exfalso; simp at h
                      · try simp only [lv1, lv2, lv3, lv4, lv5, lv6, Bool.not_true, Bool.not_false] at h
                        refine tc_skip ?_
                        refine q_then_n ?_
                        refine tc_seq ?_
                        refine tc_seq ?_
                        obtain ⟨s3, hs3⟩ : ∃ s3, s3 = { s48 with off := false } := ⟨_, rfl⟩
                        rw [← hs3]
                        refine tc_have (fun _ _ h => wfR_ct (r := d30) (s := s3) (by repeat (first | with_reducible exact ct_here | apply ct_left)) h) fun hw3 => ?_
                        have hil := imgS_len hw3
                        have htop3 := hw3.top
                        obtain ⟨q0, q1, q2, q3, q4, hq⟩ := five_i (rdA_len s3)
                        obtain ⟨e0, he0⟩ : ∃ e0, e0 = (rdA s3).2 := ⟨_, rfl⟩
                        have hrd : rdA s3 = ([q0, q1, q2, q3, q4], e0) := by rw [← hq, he0]
                        obtain ⟨w6, hw6⟩ : ∃ w6, w6 = (rootA s3).1 := ⟨_, rfl⟩
                        obtain ⟨e6, he6⟩ : ∃ e6, e6 = (rootA s3).2 := ⟨_, rfl⟩
                        have hroot : rootA s3 = (w6, e6) := by rw [hw6, he6]
                        refine tc_reg ?_
                        refine tla ?_
                        refine tl_nil ?_
                        refine q_then_n ?_
                        refine tc_block ?_
                        refine tc_loop (fun kk ρ BB => ∃ (i : Nat), (i ≤ 4) ∧ kk = 4 - i ∧ ρ 15 = .int .i64 (i : Nat) ∧ ρ 8 = .pointer (some ⟨d25, 0, none⟩) ∧ ρ 10 = .pointer (some ⟨d30, 0, none⟩) ∧ ρ 13 = .pointer (some ⟨b13, 0, none⟩) ∧ ρ 14 = .pointer (some ⟨b14, 0, none⟩) ∧ BB = A * Dev d25 s3 * RDev d30 s3 * pt b13 (cl (ints [0, 0, 0, 0, 0]) 23) * pt b14 (cl (ints [0, 0, 0, 0, 0]) 23)) (m := 4 - (0)) ?_ ?_
                        · exact ⟨0, by omega, rfl, rfl, rfl, rfl, rfl, rfl, rfl⟩
                        · intro k ρ B hI
                          obtain ⟨i, hp0, hkk1, hE15, hE8, hE10, hE13, hE14, rfl⟩ := hI
                          refine tc_env (d := 15) hE15 ?_
                          refine tc_env (d := 8) hE8 ?_
                          refine tc_env (d := 10) hE10 ?_
                          refine tc_env (d := 13) hE13 ?_
                          refine tc_env (d := 14) hE14 ?_
                          clear hE15 hE8 hE10 hE13 hE14
                          refine tc_seq ?_
                          refine tc_seq ?_
                          refine tc_reg ?_
                          refine tlm ?_
                          refine tl_v rfl (o_lss rfl rfl) ?_
                          refine tl_nil ?_
                          refine q_then_n ?_
                          refine tc_cond rfl (fun h => ?_) (fun h => ?_)
                          · try simp only [lv1, lv2, lv3, lv4, lv5, lv6, Bool.not_true, Bool.not_false] at h
                            refine tc_skip ?_
                            refine q_then_n ?_
                            refine tc_seq ?_
                            refine tc_block ?_
                            refine tc_seq ?_
                            refine tc_reg ?_
                            refine tlm ?_
                            refine tlm ?_
                            refine tl_c rfl (o_call bd35 rfl (Contents_any (s := s3) (q := i))) ?_
                            rintro _ _ ⟨a100, c100, vs100, rfl, hc100, rfl⟩
                            refine tlm ?_
                            refine tlm ?_
                            refine tl_c rfl (o_call bd82 rfl (rContents_any (s := s3) (q := i))) ?_
                            rintro _ _ ⟨a103, c103, vs103, rfl, hc103, rfl⟩
                            have hq := ctS_rows hw3 i
                            refine tl_have (fun _ _ h => rwF_parts h) fun hf2 => ?_
                            refine tl_have (fun _ _ h => rwF_parts h.left.left) fun hf1 => ?_
                            refine tl_c rfl (o_call bd81 rfl (EqRows_c (ls := ctS i s3) (ms := ctS i s3) (vs := vs100) (ws := vs103) (h1 := hf1.left.left) (h2 := hf2) (hn := rfl) (hm := rfl) (hnl := by omega) (hml := by omega) (hl1 := fun l hl => by have := hq.2 l hl; omega) (hl2 := fun l hl => by have := hq.2 l hl; omega))) ?_
                            rintro _ _ ⟨rfl, rfl⟩
                            refine tl_env (d := 104) (v := .bool true) (congrArg Value.bool (decide_eq_true rfl)) ?_
                            refine tl_v rfl (o_not rfl) ?_
                            refine tl_nil ?_
                            refine q_then_n ?_
                            refine tc_cond rfl (fun h => ?_) (fun h => ?_)
                            · exfalso; simp at h
                            · try simp only [lv1, lv2, lv3, lv4, lv5, lv6, Bool.not_true, Bool.not_false] at h
                              refine tc_skip ?_
                              refine q_block_n (q_then_n ?_)
                              refine tc_pre (A' := A * Dev d25 s3 * RDev d30 s3 * pt b13 (cl (ints [0, 0, 0, 0, 0]) 23) * pt b14 (cl (ints [0, 0, 0, 0, 0]) 23)) (Dr.sat (by repeat (first | with_reducible exact dr_refl | apply dr_keep | apply dr_drop))) ?_
                              refine tc_reg ?_
                              refine tlm ?_
                              refine tl_v rfl (by first | exact o_addI rfl rfl (by omega) | exact o_add rfl rfl) ?_
                              refine tla ?_
                              refine tl_nil ?_
                              refine q_then_n ?_
                              exact ⟨_, by omega, i + 1, by omega, rfl, rfl, rfl, rfl, rfl, rfl, rfl⟩
                          · try simp only [lv1, lv2, lv3, lv4, lv5, lv6, Bool.not_true, Bool.not_false] at h
                            refine tc_exit ?_
                            refine q_then_e (q_then_e (q_block_x (q_then_n ?_)))
                            refine tc_seq ?_
                            refine tc_reg ?_
                            refine tlm ?_
                            refine tl_c rfl (o_call bd48 rfl (Read_5 (s := s3) (by repeat (first | with_reducible exact ct_here | apply ct_left)) hrd)) ?_
                            rintro _ _ ⟨rfl, rfl⟩
                            refine tlm ?_
                            refine tl_v rfl (o_extract rfl rfl) ?_
                            refine tl_v rfl (o_extract rfl rfl) ?_
                            refine tl_u rfl (o_stUN (l' := ints [q0, q1, q2, q3, q4]) rfl (by repeat (first | with_reducible exact upd_here | with_reducible exact upd_pt | apply upd_left)) sz23 rfl rfl rfl (by show 5 ≤ 5; decide) rfl) ?_
                            refine tla ?_
                            refine tl_nil ?_
                            refine q_then_n ?_
                            refine tc_seq ?_
                            refine tc_reg ?_
                            refine tlm ?_
                            refine tl_c rfl (o_call bd66 rfl (rRead_5 (s := s3) (by repeat (first | with_reducible exact ct_here | apply ct_left)) hrd)) ?_
                            rintro _ _ ⟨rfl, rfl⟩
                            refine tlm ?_
                            refine tl_v rfl (o_extract rfl rfl) ?_
                            refine tl_v rfl (o_extract rfl rfl) ?_
                            refine tl_u rfl (o_stUN (l' := ints [q0, q1, q2, q3, q4]) rfl (by repeat (first | with_reducible exact upd_here | with_reducible exact upd_pt | apply upd_left)) sz23 rfl rfl rfl (by show 5 ≤ 5; decide) rfl) ?_
                            refine tla ?_
                            refine tl_nil ?_
                            refine q_then_n ?_
                            refine tc_seq ?_
                            refine tc_reg ?_
                            refine tlm ?_
                            refine tl_c rfl (o_call bd67 rfl (Root_5 (s := s3) (by repeat (first | with_reducible exact ct_here | apply ct_left)) hroot)) ?_
                            rintro _ _ ⟨rfl, rfl⟩
                            refine tlm ?_
                            refine tl_v rfl (o_extract rfl rfl) ?_
                            refine tl_v rfl (o_extract rfl rfl) ?_
                            refine tla ?_
                            refine tla ?_
                            refine tl_nil ?_
                            refine q_then_n ?_
                            refine tc_seq ?_
                            refine tc_reg ?_
                            refine tlm ?_
                            refine tl_c rfl (o_call bd68 rfl (rRoot_5 (s := s3) (by repeat (first | with_reducible exact ct_here | apply ct_left)) hroot)) ?_
                            rintro _ _ ⟨rfl, rfl⟩
                            refine tlm ?_
                            refine tl_v rfl (o_extract rfl rfl) ?_
                            refine tl_v rfl (o_extract rfl rfl) ?_
                            refine tla ?_
                            refine tla ?_
                            refine tl_nil ?_
                            refine q_then_n ?_
                            refine tc_seq ?_
                            refine tc_reg ?_
                            refine tl_v rfl (o_loadN (vs := ints [q0, q1, q2, q3, q4]) a23 sz23 rfl (by repeat (first | with_reducible exact has_here | with_reducible exact has_pt | apply has_left)) (by show 5 ≤ 5; decide) rfl) ?_
                            refine tl_v rfl (o_loadN (vs := ints [q0, q1, q2, q3, q4]) a23 sz23 rfl (by repeat (first | with_reducible exact has_here | with_reducible exact has_pt | apply has_left)) (by show 5 ≤ 5; decide) rfl) ?_
                            refine tl_v rfl (o_eqst (k := 5) (l := [q0, q1, q2, q3, q4]) (m := [q0, q1, q2, q3, q4]) Try.underlying23 (by kernel_rfl) (by kernel_rfl) (by kernel_rfl) rfl rfl rfl rfl) ?_
                            refine tlm ?_
                            refine tl_bool (d := 129) rfl (fun h => ?_) (fun h => ?_)
                            · try simp only [lv1, lv2, lv3, lv4, lv5, lv6, Bool.not_true, Bool.not_false] at h
                              refine tlm ?_
                              refine tlm ?_
                              refine tl_v rfl (o_eqi rfl rfl) ?_
                              refine tl_v rfl (o_pick_t rfl (by conv => lhs; whnf)) ?_
                              refine tlm ?_
                              refine tl_bool (d := 134) rfl (fun h => ?_) (fun h => ?_)
                              · try simp only [lv1, lv2, lv3, lv4, lv5, lv6, Bool.not_true, Bool.not_false] at h
                                refine tlm ?_
                                refine tlm ?_
                                refine tl_v rfl (o_eqi rfl rfl) ?_
                                refine tl_v rfl (o_pick_t rfl (by conv => lhs; whnf)) ?_
                                refine tlm ?_
                                refine tl_bool (d := 139) rfl (fun h => ?_) (fun h => ?_)
                                · try simp only [lv1, lv2, lv3, lv4, lv5, lv6, Bool.not_true, Bool.not_false] at h
                                  refine tlm ?_
                                  refine tlm ?_
                                  refine tl_v rfl (o_eqi rfl rfl) ?_
                                  refine tl_v rfl (o_pick_t rfl (by conv => lhs; whnf)) ?_
                                  refine tlm ?_
                                  refine tl_bool (d := 144) rfl (fun h => ?_) (fun h => ?_)
                                  · try simp only [lv1, lv2, lv3, lv4, lv5, lv6, Bool.not_true, Bool.not_false] at h
                                    refine tlm ?_
                                    refine tl_c rfl (o_call bd33 rfl (Image_c (s := s3))) ?_
                                    rintro _ _ ⟨a146, c146, rfl, hc146, rfl⟩
                                    refine tlm ?_
                                    refine tl_c rfl (o_call bd70 rfl (rImage_c (s := s3))) ?_
                                    rintro _ _ ⟨a148, c148, rfl, hc148, rfl⟩
                                    refine tl_c rfl (o_call bd22 rfl (EqBytes_c (xs := imgS s3) (ys := imgS s3) (hx := hil) (hy := hil))) ?_
                                    rintro _ _ ⟨rfl, rfl⟩
                                    refine tl_env (d := 149) (v := .bool true) (congrArg Value.bool (decide_eq_true rfl)) ?_
                                    refine tl_v rfl (o_pick_t rfl (by conv => lhs; whnf)) ?_
                                    refine tlm ?_
                                    refine tl_bool (d := 151) rfl (fun h => ?_) (fun h => ?_)
                                    · try simp only [lv1, lv2, lv3, lv4, lv5, lv6, Bool.not_true, Bool.not_false] at h
                                      refine tl_c rfl (o_call bd24 rfl (works_c)) ?_
                                      rintro _ _ ⟨rfl, rfl⟩
                                      refine tl_v rfl (o_pick_t rfl (by conv => lhs; whnf)) ?_
                                      refine tla ?_
                                      refine tl_nil ?_
                                      refine q_then_n ?_
                                      refine tc_ret ?_
                                      exact ⟨.bool true, A, res1 rfl rfl, Dr.sat (by repeat (first | with_reducible exact dr_refl | apply dr_keep | apply dr_drop)), rfl, rfl⟩
                                    · exfalso; simp at h
                                  · exfalso; simp at h
                                · exfalso; simp at h
                              · exfalso; simp at h
                            · exfalso; simp at h
        · skip
          refine oh_x (i := 9) (listed' := #[true, true, true, true, true, false, false, true, true, true, false, false, false]) rfl rfl rfl (o_buildSliceK (k := 2) (l := [.int .i64 af, .slice ka kp.length kc]) Try.underlying74 sz72 z72 rfl rfl (by decide)) ?_
          rintro _ _ ⟨b51, rfl, rfl⟩
          refine ⟨by repeat (first | with_reducible exact dr_refl | apply dr_keep | apply dr_drop), ?_⟩
          refine th_one (i := 5) (by kernel_rfl) ?_
          refine oh_x (i := 5) (listed' := #[true, true, true, true, true, true, false, true, true, true, false, false, false]) rfl rfl rfl (o_buildSliceK (k := 2) (l := [.int .i64 af, .slice ka kp.length kc]) Try.underlying74 sz72 z72 rfl rfl (by decide)) ?_
          rintro _ _ ⟨b47, rfl, rfl⟩
          refine ⟨by repeat (first | with_reducible exact dr_refl | apply dr_keep | apply dr_drop), ?_⟩
          refine th_one (i := 6) (by kernel_rfl) ?_
          refine oh_c (i := 6) (listed' := #[true, true, true, true, true, true, true, true, true, true, false, false, false]) rfl rfl rfl (o_call bd44 rfl (Arm_c (s := fromS k xs) (kvs := [.slice ka kp.length kc]) (ars := [(af, kp)]) (hm := rfl) (hr := ⟨by repeat (first | assumption | exact rs_sl | exact rs_pt0 | exact rs_none | apply Rs.left), rfl, fun i h => by have h0 : i = 0 := (by simpa using h); subst h0; exact ⟨_, _, rfl, (by show kp.length ≤ _; exact hkc), (by repeat (first | exact hrk | apply Rs.left))⟩⟩) (hk := fun x hx => by simp only [List.mem_singleton] at hx; subst hx; exact ⟨by constructor <;> (show _ ≤ _) <;> omega, by show kp.length ≤ _; omega, hkb⟩))) ?_
          rintro _ _ ⟨e48, s48, hs48, rfl, rfl⟩
          refine ⟨by repeat (first | with_reducible exact dr_refl | apply dr_keep | apply dr_drop), ?_⟩
          refine th_one (i := 10) (by kernel_rfl) ?_
          refine oh_c (i := 10) (listed' := #[true, true, true, true, true, true, true, true, true, true, true, false, false]) rfl rfl rfl (o_call bd77 rfl (rArm_c (s := fromS k xs) (kvs := [.slice ka kp.length kc]) (ars := [(af, kp)]) (hm := rfl) (hr := ⟨by repeat (first | assumption | exact rs_sl | exact rs_pt0 | exact rs_none | apply Rs.left), rfl, fun i h => by have h0 : i = 0 := (by simpa using h); subst h0; exact ⟨_, _, rfl, (by show kp.length ≤ _; exact hkc), (by repeat (first | exact hrk | apply Rs.left))⟩⟩) (hk := fun x hx => by simp only [List.mem_singleton] at hx; subst hx; exact ⟨by constructor <;> (show _ ≤ _) <;> omega, by show kp.length ≤ _; omega, hkb⟩))) ?_
          rintro _ _ ⟨e52, s52, hs52, rfl, rfl⟩
          refine ⟨by repeat (first | with_reducible exact dr_refl | apply dr_keep | apply dr_drop), ?_⟩
          obtain ⟨rfl, rfl⟩ : e48 = e52 ∧ s48 = s52 := by rw [hs48] at hs52; simpa using hs52
          refine th_take (i := 11) (listed' := #[true, true, true, true, true, true, true, true, true, true, true, true, false]) rfl (by kernel_rfl) (by kernel_rfl) (by kernel_rfl) rfl rfl (o_nei rfl rfl) ?_
          refine th_take (i := 12) (listed' := #[true, true, true, true, true, true, true, true, true, true, true, true, true]) rfl (by kernel_rfl) (by kernel_rfl) (by kernel_rfl) rfl rfl (o_pick_t rfl (by conv => lhs; whnf)) ?_
          refine th_done (by kernel_rfl) ?_
          refine q_then_n ?_
          refine tc_cond rfl (fun h => ?_) (fun h => ?_)
          · exfalso; simp at h
          · try simp only [lv1, lv2, lv3, lv4, lv5, lv6, Bool.not_true, Bool.not_false] at h
            refine tc_skip ?_
            refine q_then_n ?_
            refine tc_seq ?_
            refine tc_pre (A' := A * Dev d25 s48 * RDev d30 s48) (Dr.sat (by repeat (first | with_reducible exact dr_refl | apply dr_keep | apply dr_drop))) ?_
            have hs48q : s48.off = false ∧ s48.ls = (fromS k xs).ls := by first | exact ha0 | exact armS_any (from_live k xs).1 (from_live k xs).2 hs48
            have hl48 : s48.ls.length = k := by rw [hs48q.2]; exact from_lslen k xs
            refine tc_reg ?_
            refine tlm ?_
            refine tl_c rfl (o_call bd75 rfl (Format_no (s := s48) (n := n) (hoff := hs48q.1) (hlen := by omega) (hn := by omega))) ?_
            rintro _ _ ⟨rfl, rfl⟩
            refine tlm ?_
            refine tl_v rfl (o_extract rfl rfl) ?_
            refine tl_v rfl (o_extract rfl rfl) ?_
            refine tl_x rfl (o_alloc z23 rfl) ?_
            rintro _ _ ⟨b13, rfl, rfl⟩
            refine tl_u rfl (o_stUN (l' := ints [0, 0, 0, 0, 0]) rfl (by repeat (first | with_reducible exact upd_here | with_reducible exact upd_pt | apply upd_left)) sz23 rfl rfl rfl (by show 5 ≤ 5; decide) rfl) ?_
            refine tla ?_
            refine tl_nil ?_
            refine q_then_n ?_
            refine tc_seq ?_
            refine tc_reg ?_
            refine tlm ?_
            refine tl_c rfl (o_call bd78 rfl (rFormat_no (s := s48) (n := n) (hoff := hs48q.1) (hlen := by omega) (hn := by omega))) ?_
            rintro _ _ ⟨rfl, rfl⟩
            refine tlm ?_
            refine tl_v rfl (o_extract rfl rfl) ?_
            refine tl_v rfl (o_extract rfl rfl) ?_
            refine tl_x rfl (o_alloc z23 rfl) ?_
            rintro _ _ ⟨b14, rfl, rfl⟩
            refine tl_u rfl (o_stUN (l' := ints [0, 0, 0, 0, 0]) rfl (by repeat (first | with_reducible exact upd_here | with_reducible exact upd_pt | apply upd_left)) sz23 rfl rfl rfl (by show 5 ≤ 5; decide) rfl) ?_
            refine tla ?_
            refine tl_nil ?_
            refine q_then_n ?_
            refine tc_seq ?_
            refine tc_seq ?_
            refine tc_reg ?_
            refine tl_v rfl (o_loadN (vs := ints [0, 0, 0, 0, 0]) a23 sz23 rfl (by repeat (first | with_reducible exact has_here | with_reducible exact has_pt | apply has_left)) (by show 5 ≤ 5; decide) rfl) ?_
            refine tl_v rfl (o_loadN (vs := ints [0, 0, 0, 0, 0]) a23 sz23 rfl (by repeat (first | with_reducible exact has_here | with_reducible exact has_pt | apply has_left)) (by show 5 ≤ 5; decide) rfl) ?_
            refine tl_v rfl (o_nest (k := 5) (l := [0, 0, 0, 0, 0]) (m := [0, 0, 0, 0, 0]) Try.underlying23 (by kernel_rfl) (by kernel_rfl) (by kernel_rfl) rfl rfl rfl rfl) ?_
            refine tlm ?_
            refine tl_bool (d := 68) rfl (fun h => ?_) (fun h => ?_)
            · exfalso; simp at h
            · try simp only [lv1, lv2, lv3, lv4, lv5, lv6, Bool.not_true, Bool.not_false] at h
              refine tlm ?_
              refine tlm ?_
              refine tl_v rfl (o_nei rfl rfl) ?_
              refine tl_v rfl (o_pick_f rfl (by conv => lhs; whnf)) ?_
              refine tlm ?_
              refine tl_bool (d := 73) rfl (fun h => ?_) (fun h => ?_)
              · exfalso; simp at h
              · try simp only [lv1, lv2, lv3, lv4, lv5, lv6, Bool.not_true, Bool.not_false] at h
                refine tlm ?_
                refine tl_c rfl (o_call bd41 rfl (Ops_c (s := s48))) ?_
                rintro _ _ ⟨rfl, rfl⟩
                refine tlm ?_
                refine tl_c rfl (o_call bd69 rfl (rOps_c (s := s48))) ?_
                rintro _ _ ⟨rfl, rfl⟩
                refine tl_v rfl (o_nei rfl rfl) ?_
                refine tl_v rfl (o_pick_f rfl (by conv => lhs; whnf)) ?_
                refine tlm ?_
                refine tl_bool (d := 80) rfl (fun h => ?_) (fun h => ?_)
                · exfalso; simp at h
                · try simp only [lv1, lv2, lv3, lv4, lv5, lv6, Bool.not_true, Bool.not_false] at h
                  refine tlm ?_
                  refine tl_c rfl (o_call bd31 rfl (Off_c (s := s48))) ?_
                  rintro _ _ ⟨rfl, rfl⟩
                  refine tlm ?_
                  refine tl_c rfl (o_call bd79 rfl (rOff_c (s := s48))) ?_
                  rintro _ _ ⟨rfl, rfl⟩
                  refine tl_v rfl (o_neb Try.underlying4 rfl rfl) ?_
                  refine tl_v rfl (o_pick_f rfl (by conv => lhs; whnf)) ?_
                  refine tlm ?_
                  refine tl_bool (d := 87) rfl (fun h => ?_) (fun h => ?_)
                  · exfalso; simp at h
                  · try simp only [lv1, lv2, lv3, lv4, lv5, lv6, Bool.not_true, Bool.not_false] at h
                    refine tlm ?_
                    refine tl_c rfl (o_call bd32 rfl (Wake_c (s := s48))) ?_
                    rintro _ _ ⟨rfl, rfl⟩
                    refine tlm ?_
                    refine tl_c rfl (o_call bd80 rfl (rWake_c (s := s48))) ?_
                    rintro _ _ ⟨rfl, rfl⟩
                    refine tl_v rfl (o_nei rfl rfl) ?_
                    refine tl_v rfl (o_pick_f rfl (by conv => lhs; whnf)) ?_
                    refine tl_nil ?_
                    refine q_then_n ?_
                    refine tc_cond rfl (fun h => ?_) (fun h => ?_)
                    · exfalso; simp at h
                    · try simp only [lv1, lv2, lv3, lv4, lv5, lv6, Bool.not_true, Bool.not_false] at h
                      refine tc_skip ?_
                      refine q_then_n ?_
                      refine tc_seq ?_
                      refine tc_seq ?_
                      obtain ⟨s3, hs3⟩ : ∃ s3, s3 = { s48 with off := false } := ⟨_, rfl⟩
                      rw [← hs3]
                      refine tc_have (fun _ _ h => wfR_ct (r := d30) (s := s3) (by repeat (first | with_reducible exact ct_here | apply ct_left)) h) fun hw3 => ?_
                      have hil := imgS_len hw3
                      have htop3 := hw3.top
                      obtain ⟨q0, q1, q2, q3, q4, hq⟩ := five_i (rdA_len s3)
                      obtain ⟨e0, he0⟩ : ∃ e0, e0 = (rdA s3).2 := ⟨_, rfl⟩
                      have hrd : rdA s3 = ([q0, q1, q2, q3, q4], e0) := by rw [← hq, he0]
                      obtain ⟨w6, hw6⟩ : ∃ w6, w6 = (rootA s3).1 := ⟨_, rfl⟩
                      obtain ⟨e6, he6⟩ : ∃ e6, e6 = (rootA s3).2 := ⟨_, rfl⟩
                      have hroot : rootA s3 = (w6, e6) := by rw [hw6, he6]
                      refine tc_reg ?_
                      refine tla ?_
                      refine tl_nil ?_
                      refine q_then_n ?_
                      refine tc_block ?_
                      refine tc_loop (fun kk ρ BB => ∃ (i : Nat), (i ≤ 4) ∧ kk = 4 - i ∧ ρ 15 = .int .i64 (i : Nat) ∧ ρ 8 = .pointer (some ⟨d25, 0, none⟩) ∧ ρ 10 = .pointer (some ⟨d30, 0, none⟩) ∧ ρ 13 = .pointer (some ⟨b13, 0, none⟩) ∧ ρ 14 = .pointer (some ⟨b14, 0, none⟩) ∧ BB = A * Dev d25 s3 * RDev d30 s3 * pt b13 (cl (ints [0, 0, 0, 0, 0]) 23) * pt b14 (cl (ints [0, 0, 0, 0, 0]) 23)) (m := 4 - (0)) ?_ ?_
                      · exact ⟨0, by omega, rfl, rfl, rfl, rfl, rfl, rfl, rfl⟩
                      · intro k ρ B hI
                        obtain ⟨i, hp0, hkk1, hE15, hE8, hE10, hE13, hE14, rfl⟩ := hI
                        refine tc_env (d := 15) hE15 ?_
                        refine tc_env (d := 8) hE8 ?_
                        refine tc_env (d := 10) hE10 ?_
                        refine tc_env (d := 13) hE13 ?_
                        refine tc_env (d := 14) hE14 ?_
                        clear hE15 hE8 hE10 hE13 hE14
                        refine tc_seq ?_
                        refine tc_seq ?_
                        refine tc_reg ?_
                        refine tlm ?_
                        refine tl_v rfl (o_lss rfl rfl) ?_
                        refine tl_nil ?_
                        refine q_then_n ?_
                        refine tc_cond rfl (fun h => ?_) (fun h => ?_)
                        · try simp only [lv1, lv2, lv3, lv4, lv5, lv6, Bool.not_true, Bool.not_false] at h
                          refine tc_skip ?_
                          refine q_then_n ?_
                          refine tc_seq ?_
                          refine tc_block ?_
                          refine tc_seq ?_
                          refine tc_reg ?_
                          refine tlm ?_
                          refine tlm ?_
                          refine tl_c rfl (o_call bd35 rfl (Contents_any (s := s3) (q := i))) ?_
                          rintro _ _ ⟨a100, c100, vs100, rfl, hc100, rfl⟩
                          refine tlm ?_
                          refine tlm ?_
                          refine tl_c rfl (o_call bd82 rfl (rContents_any (s := s3) (q := i))) ?_
                          rintro _ _ ⟨a103, c103, vs103, rfl, hc103, rfl⟩
                          have hq := ctS_rows hw3 i
                          refine tl_have (fun _ _ h => rwF_parts h) fun hf2 => ?_
                          refine tl_have (fun _ _ h => rwF_parts h.left.left) fun hf1 => ?_
                          refine tl_c rfl (o_call bd81 rfl (EqRows_c (ls := ctS i s3) (ms := ctS i s3) (vs := vs100) (ws := vs103) (h1 := hf1.left.left) (h2 := hf2) (hn := rfl) (hm := rfl) (hnl := by omega) (hml := by omega) (hl1 := fun l hl => by have := hq.2 l hl; omega) (hl2 := fun l hl => by have := hq.2 l hl; omega))) ?_
                          rintro _ _ ⟨rfl, rfl⟩
                          refine tl_env (d := 104) (v := .bool true) (congrArg Value.bool (decide_eq_true rfl)) ?_
                          refine tl_v rfl (o_not rfl) ?_
                          refine tl_nil ?_
                          refine q_then_n ?_
                          refine tc_cond rfl (fun h => ?_) (fun h => ?_)
                          · exfalso; simp at h
                          · try simp only [lv1, lv2, lv3, lv4, lv5, lv6, Bool.not_true, Bool.not_false] at h
                            refine tc_skip ?_
                            refine q_block_n (q_then_n ?_)
                            refine tc_pre (A' := A * Dev d25 s3 * RDev d30 s3 * pt b13 (cl (ints [0, 0, 0, 0, 0]) 23) * pt b14 (cl (ints [0, 0, 0, 0, 0]) 23)) (Dr.sat (by repeat (first | with_reducible exact dr_refl | apply dr_keep | apply dr_drop))) ?_
                            refine tc_reg ?_
                            refine tlm ?_
                            refine tl_v rfl (by first | exact o_addI rfl rfl (by omega) | exact o_add rfl rfl) ?_
                            refine tla ?_
                            refine tl_nil ?_
                            refine q_then_n ?_
                            exact ⟨_, by omega, i + 1, by omega, rfl, rfl, rfl, rfl, rfl, rfl, rfl⟩
                        · try simp only [lv1, lv2, lv3, lv4, lv5, lv6, Bool.not_true, Bool.not_false] at h
                          refine tc_exit ?_
                          refine q_then_e (q_then_e (q_block_x (q_then_n ?_)))
                          refine tc_seq ?_
                          refine tc_reg ?_
                          refine tlm ?_
                          refine tl_c rfl (o_call bd48 rfl (Read_5 (s := s3) (by repeat (first | with_reducible exact ct_here | apply ct_left)) hrd)) ?_
                          rintro _ _ ⟨rfl, rfl⟩
                          refine tlm ?_
                          refine tl_v rfl (o_extract rfl rfl) ?_
                          refine tl_v rfl (o_extract rfl rfl) ?_
                          refine tl_u rfl (o_stUN (l' := ints [q0, q1, q2, q3, q4]) rfl (by repeat (first | with_reducible exact upd_here | with_reducible exact upd_pt | apply upd_left)) sz23 rfl rfl rfl (by show 5 ≤ 5; decide) rfl) ?_
                          refine tla ?_
                          refine tl_nil ?_
                          refine q_then_n ?_
                          refine tc_seq ?_
                          refine tc_reg ?_
                          refine tlm ?_
                          refine tl_c rfl (o_call bd66 rfl (rRead_5 (s := s3) (by repeat (first | with_reducible exact ct_here | apply ct_left)) hrd)) ?_
                          rintro _ _ ⟨rfl, rfl⟩
                          refine tlm ?_
                          refine tl_v rfl (o_extract rfl rfl) ?_
                          refine tl_v rfl (o_extract rfl rfl) ?_
                          refine tl_u rfl (o_stUN (l' := ints [q0, q1, q2, q3, q4]) rfl (by repeat (first | with_reducible exact upd_here | with_reducible exact upd_pt | apply upd_left)) sz23 rfl rfl rfl (by show 5 ≤ 5; decide) rfl) ?_
                          refine tla ?_
                          refine tl_nil ?_
                          refine q_then_n ?_
                          refine tc_seq ?_
                          refine tc_reg ?_
                          refine tlm ?_
                          refine tl_c rfl (o_call bd67 rfl (Root_5 (s := s3) (by repeat (first | with_reducible exact ct_here | apply ct_left)) hroot)) ?_
                          rintro _ _ ⟨rfl, rfl⟩
                          refine tlm ?_
                          refine tl_v rfl (o_extract rfl rfl) ?_
                          refine tl_v rfl (o_extract rfl rfl) ?_
                          refine tla ?_
                          refine tla ?_
                          refine tl_nil ?_
                          refine q_then_n ?_
                          refine tc_seq ?_
                          refine tc_reg ?_
                          refine tlm ?_
                          refine tl_c rfl (o_call bd68 rfl (rRoot_5 (s := s3) (by repeat (first | with_reducible exact ct_here | apply ct_left)) hroot)) ?_
                          rintro _ _ ⟨rfl, rfl⟩
                          refine tlm ?_
                          refine tl_v rfl (o_extract rfl rfl) ?_
                          refine tl_v rfl (o_extract rfl rfl) ?_
                          refine tla ?_
                          refine tla ?_
                          refine tl_nil ?_
                          refine q_then_n ?_
                          refine tc_seq ?_
                          refine tc_reg ?_
                          refine tl_v rfl (o_loadN (vs := ints [q0, q1, q2, q3, q4]) a23 sz23 rfl (by repeat (first | with_reducible exact has_here | with_reducible exact has_pt | apply has_left)) (by show 5 ≤ 5; decide) rfl) ?_
                          refine tl_v rfl (o_loadN (vs := ints [q0, q1, q2, q3, q4]) a23 sz23 rfl (by repeat (first | with_reducible exact has_here | with_reducible exact has_pt | apply has_left)) (by show 5 ≤ 5; decide) rfl) ?_
                          refine tl_v rfl (o_eqst (k := 5) (l := [q0, q1, q2, q3, q4]) (m := [q0, q1, q2, q3, q4]) Try.underlying23 (by kernel_rfl) (by kernel_rfl) (by kernel_rfl) rfl rfl rfl rfl) ?_
                          refine tlm ?_
                          refine tl_bool (d := 129) rfl (fun h => ?_) (fun h => ?_)
                          · try simp only [lv1, lv2, lv3, lv4, lv5, lv6, Bool.not_true, Bool.not_false] at h
                            refine tlm ?_
                            refine tlm ?_
                            refine tl_v rfl (o_eqi rfl rfl) ?_
                            refine tl_v rfl (o_pick_t rfl (by conv => lhs; whnf)) ?_
                            refine tlm ?_
                            refine tl_bool (d := 134) rfl (fun h => ?_) (fun h => ?_)
                            · try simp only [lv1, lv2, lv3, lv4, lv5, lv6, Bool.not_true, Bool.not_false] at h
                              refine tlm ?_
                              refine tlm ?_
                              refine tl_v rfl (o_eqi rfl rfl) ?_
                              refine tl_v rfl (o_pick_t rfl (by conv => lhs; whnf)) ?_
                              refine tlm ?_
                              refine tl_bool (d := 139) rfl (fun h => ?_) (fun h => ?_)
                              · try simp only [lv1, lv2, lv3, lv4, lv5, lv6, Bool.not_true, Bool.not_false] at h
                                refine tlm ?_
                                refine tlm ?_
                                refine tl_v rfl (o_eqi rfl rfl) ?_
                                refine tl_v rfl (o_pick_t rfl (by conv => lhs; whnf)) ?_
                                refine tlm ?_
                                refine tl_bool (d := 144) rfl (fun h => ?_) (fun h => ?_)
                                · try simp only [lv1, lv2, lv3, lv4, lv5, lv6, Bool.not_true, Bool.not_false] at h
                                  refine tlm ?_
                                  refine tl_c rfl (o_call bd33 rfl (Image_c (s := s3))) ?_
                                  rintro _ _ ⟨a146, c146, rfl, hc146, rfl⟩
                                  refine tlm ?_
                                  refine tl_c rfl (o_call bd70 rfl (rImage_c (s := s3))) ?_
                                  rintro _ _ ⟨a148, c148, rfl, hc148, rfl⟩
                                  refine tl_c rfl (o_call bd22 rfl (EqBytes_c (xs := imgS s3) (ys := imgS s3) (hx := hil) (hy := hil))) ?_
                                  rintro _ _ ⟨rfl, rfl⟩
                                  refine tl_env (d := 149) (v := .bool true) (congrArg Value.bool (decide_eq_true rfl)) ?_
                                  refine tl_v rfl (o_pick_t rfl (by conv => lhs; whnf)) ?_
                                  refine tlm ?_
                                  refine tl_bool (d := 151) rfl (fun h => ?_) (fun h => ?_)
                                  · try simp only [lv1, lv2, lv3, lv4, lv5, lv6, Bool.not_true, Bool.not_false] at h
                                    refine tl_c rfl (o_call bd24 rfl (works_c)) ?_
                                    rintro _ _ ⟨rfl, rfl⟩
                                    refine tl_v rfl (o_pick_t rfl (by conv => lhs; whnf)) ?_
                                    refine tla ?_
                                    refine tl_nil ?_
                                    refine q_then_n ?_
                                    refine tc_ret ?_
                                    exact ⟨.bool true, A, res1 rfl rfl, Dr.sat (by repeat (first | with_reducible exact dr_refl | apply dr_keep | apply dr_drop)), rfl, rfl⟩
                                  · exfalso; simp at h
                                · exfalso; simp at h
                              · exfalso; simp at h
                            · exfalso; simp at h
                          · exfalso; simp at h
      · obtain ⟨s48, hs48z⟩ : ∃ s, s = fromS k xs := ⟨_, rfl⟩
        rw [← hs48z]
        have ha0 : s48.off = false ∧ s48.ls = (fromS k xs).ls := by rw [hs48z]; exact ⟨(from_live k xs).1, rfl⟩
        refine th_skip (i := 3) (listed' := #[true, true, true, true, false, false, false, false, false, false, false, false, false]) rfl (by kernel_rfl) (by kernel_rfl) (by kernel_rfl) rfl rfl ?_
        refine th_skip (i := 4) (listed' := #[true, true, true, true, true, false, false, false, false, false, false, false, false]) rfl (by kernel_rfl) (by kernel_rfl) (by kernel_rfl) rfl rfl ?_
        refine th_skip (i := 5) (listed' := #[true, true, true, true, true, true, false, false, false, false, false, false, false]) rfl (by kernel_rfl) (by kernel_rfl) (by kernel_rfl) rfl rfl ?_
        refine th_skip (i := 6) (listed' := #[true, true, true, true, true, true, true, false, false, false, false, false, false]) rfl (by kernel_rfl) (by kernel_rfl) (by kernel_rfl) rfl rfl ?_
        refine th_skip (i := 7) (listed' := #[true, true, true, true, true, true, true, true, false, false, false, false, false]) rfl (by kernel_rfl) (by kernel_rfl) (by kernel_rfl) rfl rfl ?_
        refine th_skip (i := 8) (listed' := #[true, true, true, true, true, true, true, true, true, false, false, false, false]) rfl (by kernel_rfl) (by kernel_rfl) (by kernel_rfl) rfl rfl ?_
        refine th_skip (i := 9) (listed' := #[true, true, true, true, true, true, true, true, true, true, false, false, false]) rfl (by kernel_rfl) (by kernel_rfl) (by kernel_rfl) rfl rfl ?_
        refine th_skip (i := 10) (listed' := #[true, true, true, true, true, true, true, true, true, true, true, false, false]) rfl (by kernel_rfl) (by kernel_rfl) (by kernel_rfl) rfl rfl ?_
        refine th_skip (i := 11) (listed' := #[true, true, true, true, true, true, true, true, true, true, true, true, false]) rfl (by kernel_rfl) (by kernel_rfl) (by kernel_rfl) rfl rfl ?_
        refine th_take (i := 12) (listed' := #[true, true, true, true, true, true, true, true, true, true, true, true, true]) rfl (by kernel_rfl) (by kernel_rfl) (by kernel_rfl) rfl rfl (o_pick_f rfl (by conv => lhs; whnf)) ?_
        refine th_done (by kernel_rfl) ?_
        refine q_then_n ?_
        refine tc_cond_f rfl ?_
        refine tc_skip ?_
        refine q_then_n ?_
        refine tc_seq ?_
        refine tc_pre (A' := A * Dev d25 s48 * RDev d30 s48) (Dr.sat (by repeat (first | with_reducible exact dr_refl | apply dr_keep | apply dr_drop))) ?_
        have hs48q : s48.off = false ∧ s48.ls = (fromS k xs).ls := by first | exact ha0 | exact armS_any (from_live k xs).1 (from_live k xs).2 hs48
        have hl48 : s48.ls.length = k := by rw [hs48q.2]; exact from_lslen k xs
        refine tc_reg ?_
        refine tlm ?_
        refine tl_c rfl (o_call bd75 rfl (Format_no (s := s48) (n := n) (hoff := hs48q.1) (hlen := by omega) (hn := by omega))) ?_
        rintro _ _ ⟨rfl, rfl⟩
        refine tlm ?_
        refine tl_v rfl (o_extract rfl rfl) ?_
        refine tl_v rfl (o_extract rfl rfl) ?_
        refine tl_x rfl (o_alloc z23 rfl) ?_
        rintro _ _ ⟨b13, rfl, rfl⟩
        refine tl_u rfl (o_stUN (l' := ints [0, 0, 0, 0, 0]) rfl (by repeat (first | with_reducible exact upd_here | with_reducible exact upd_pt | apply upd_left)) sz23 rfl rfl rfl (by show 5 ≤ 5; decide) rfl) ?_
        refine tla ?_
        refine tl_nil ?_
        refine q_then_n ?_
        refine tc_seq ?_
        refine tc_reg ?_
        refine tlm ?_
        refine tl_c rfl (o_call bd78 rfl (rFormat_no (s := s48) (n := n) (hoff := hs48q.1) (hlen := by omega) (hn := by omega))) ?_
        rintro _ _ ⟨rfl, rfl⟩
        refine tlm ?_
        refine tl_v rfl (o_extract rfl rfl) ?_
        refine tl_v rfl (o_extract rfl rfl) ?_
        refine tl_x rfl (o_alloc z23 rfl) ?_
        rintro _ _ ⟨b14, rfl, rfl⟩
        refine tl_u rfl (o_stUN (l' := ints [0, 0, 0, 0, 0]) rfl (by repeat (first | with_reducible exact upd_here | with_reducible exact upd_pt | apply upd_left)) sz23 rfl rfl rfl (by show 5 ≤ 5; decide) rfl) ?_
        refine tla ?_
        refine tl_nil ?_
        refine q_then_n ?_
        refine tc_seq ?_
        refine tc_seq ?_
        refine tc_reg ?_
        refine tl_v rfl (o_loadN (vs := ints [0, 0, 0, 0, 0]) a23 sz23 rfl (by repeat (first | with_reducible exact has_here | with_reducible exact has_pt | apply has_left)) (by show 5 ≤ 5; decide) rfl) ?_
        refine tl_v rfl (o_loadN (vs := ints [0, 0, 0, 0, 0]) a23 sz23 rfl (by repeat (first | with_reducible exact has_here | with_reducible exact has_pt | apply has_left)) (by show 5 ≤ 5; decide) rfl) ?_
        refine tl_v rfl (o_nest (k := 5) (l := [0, 0, 0, 0, 0]) (m := [0, 0, 0, 0, 0]) Try.underlying23 (by kernel_rfl) (by kernel_rfl) (by kernel_rfl) rfl rfl rfl rfl) ?_
        refine tlm ?_
        refine tl_bool (d := 68) rfl (fun h => ?_) (fun h => ?_)
        · exfalso; simp at h
        · try simp only [lv1, lv2, lv3, lv4, lv5, lv6, Bool.not_true, Bool.not_false] at h
          refine tlm ?_
          refine tlm ?_
          refine tl_v rfl (o_nei rfl rfl) ?_
          refine tl_v rfl (o_pick_f rfl (by conv => lhs; whnf)) ?_
          refine tlm ?_
          refine tl_bool (d := 73) rfl (fun h => ?_) (fun h => ?_)
          · exfalso; simp at h
          · try simp only [lv1, lv2, lv3, lv4, lv5, lv6, Bool.not_true, Bool.not_false] at h
            refine tlm ?_
            refine tl_c rfl (o_call bd41 rfl (Ops_c (s := s48))) ?_
            rintro _ _ ⟨rfl, rfl⟩
            refine tlm ?_
            refine tl_c rfl (o_call bd69 rfl (rOps_c (s := s48))) ?_
            rintro _ _ ⟨rfl, rfl⟩
            refine tl_v rfl (o_nei rfl rfl) ?_
            refine tl_v rfl (o_pick_f rfl (by conv => lhs; whnf)) ?_
            refine tlm ?_
            refine tl_bool (d := 80) rfl (fun h => ?_) (fun h => ?_)
            · exfalso; simp at h
            · try simp only [lv1, lv2, lv3, lv4, lv5, lv6, Bool.not_true, Bool.not_false] at h
              refine tlm ?_
              refine tl_c rfl (o_call bd31 rfl (Off_c (s := s48))) ?_
              rintro _ _ ⟨rfl, rfl⟩
              refine tlm ?_
              refine tl_c rfl (o_call bd79 rfl (rOff_c (s := s48))) ?_
              rintro _ _ ⟨rfl, rfl⟩
              refine tl_v rfl (o_neb Try.underlying4 rfl rfl) ?_
              refine tl_v rfl (o_pick_f rfl (by conv => lhs; whnf)) ?_
              refine tlm ?_
              refine tl_bool (d := 87) rfl (fun h => ?_) (fun h => ?_)
              · exfalso; simp at h
              · try simp only [lv1, lv2, lv3, lv4, lv5, lv6, Bool.not_true, Bool.not_false] at h
                refine tlm ?_
                refine tl_c rfl (o_call bd32 rfl (Wake_c (s := s48))) ?_
                rintro _ _ ⟨rfl, rfl⟩
                refine tlm ?_
                refine tl_c rfl (o_call bd80 rfl (rWake_c (s := s48))) ?_
                rintro _ _ ⟨rfl, rfl⟩
                refine tl_v rfl (o_nei rfl rfl) ?_
                refine tl_v rfl (o_pick_f rfl (by conv => lhs; whnf)) ?_
                refine tl_nil ?_
                refine q_then_n ?_
                refine tc_cond rfl (fun h => ?_) (fun h => ?_)
                · exfalso; simp at h
                · try simp only [lv1, lv2, lv3, lv4, lv5, lv6, Bool.not_true, Bool.not_false] at h
                  refine tc_skip ?_
                  refine q_then_n ?_
                  refine tc_seq ?_
                  refine tc_seq ?_
                  obtain ⟨s3, hs3⟩ : ∃ s3, s3 = { s48 with off := false } := ⟨_, rfl⟩
                  rw [← hs3]
                  refine tc_have (fun _ _ h => wfR_ct (r := d30) (s := s3) (by repeat (first | with_reducible exact ct_here | apply ct_left)) h) fun hw3 => ?_
                  have hil := imgS_len hw3
                  have htop3 := hw3.top
                  obtain ⟨q0, q1, q2, q3, q4, hq⟩ := five_i (rdA_len s3)
                  obtain ⟨e0, he0⟩ : ∃ e0, e0 = (rdA s3).2 := ⟨_, rfl⟩
                  have hrd : rdA s3 = ([q0, q1, q2, q3, q4], e0) := by rw [← hq, he0]
                  obtain ⟨w6, hw6⟩ : ∃ w6, w6 = (rootA s3).1 := ⟨_, rfl⟩
                  obtain ⟨e6, he6⟩ : ∃ e6, e6 = (rootA s3).2 := ⟨_, rfl⟩
                  have hroot : rootA s3 = (w6, e6) := by rw [hw6, he6]
                  refine tc_reg ?_
                  refine tla ?_
                  refine tl_nil ?_
                  refine q_then_n ?_
                  refine tc_block ?_
                  refine tc_loop (fun kk ρ BB => ∃ (i : Nat), (i ≤ 4) ∧ kk = 4 - i ∧ ρ 15 = .int .i64 (i : Nat) ∧ ρ 8 = .pointer (some ⟨d25, 0, none⟩) ∧ ρ 10 = .pointer (some ⟨d30, 0, none⟩) ∧ ρ 13 = .pointer (some ⟨b13, 0, none⟩) ∧ ρ 14 = .pointer (some ⟨b14, 0, none⟩) ∧ BB = A * Dev d25 s3 * RDev d30 s3 * pt b13 (cl (ints [0, 0, 0, 0, 0]) 23) * pt b14 (cl (ints [0, 0, 0, 0, 0]) 23)) (m := 4 - (0)) ?_ ?_
                  · exact ⟨0, by omega, rfl, rfl, rfl, rfl, rfl, rfl, rfl⟩
                  · intro k ρ B hI
                    obtain ⟨i, hp0, hkk1, hE15, hE8, hE10, hE13, hE14, rfl⟩ := hI
                    refine tc_env (d := 15) hE15 ?_
                    refine tc_env (d := 8) hE8 ?_
                    refine tc_env (d := 10) hE10 ?_
                    refine tc_env (d := 13) hE13 ?_
                    refine tc_env (d := 14) hE14 ?_
                    clear hE15 hE8 hE10 hE13 hE14
                    refine tc_seq ?_
                    refine tc_seq ?_
                    refine tc_reg ?_
                    refine tlm ?_
                    refine tl_v rfl (o_lss rfl rfl) ?_
                    refine tl_nil ?_
                    refine q_then_n ?_
                    refine tc_cond rfl (fun h => ?_) (fun h => ?_)
                    · try simp only [lv1, lv2, lv3, lv4, lv5, lv6, Bool.not_true, Bool.not_false] at h
                      refine tc_skip ?_
                      refine q_then_n ?_
                      refine tc_seq ?_
                      refine tc_block ?_
                      refine tc_seq ?_
                      refine tc_reg ?_
                      refine tlm ?_
                      refine tlm ?_
                      refine tl_c rfl (o_call bd35 rfl (Contents_any (s := s3) (q := i))) ?_
                      rintro _ _ ⟨a100, c100, vs100, rfl, hc100, rfl⟩
                      refine tlm ?_
                      refine tlm ?_
                      refine tl_c rfl (o_call bd82 rfl (rContents_any (s := s3) (q := i))) ?_
                      rintro _ _ ⟨a103, c103, vs103, rfl, hc103, rfl⟩
                      have hq := ctS_rows hw3 i
                      refine tl_have (fun _ _ h => rwF_parts h) fun hf2 => ?_
                      refine tl_have (fun _ _ h => rwF_parts h.left.left) fun hf1 => ?_
                      refine tl_c rfl (o_call bd81 rfl (EqRows_c (ls := ctS i s3) (ms := ctS i s3) (vs := vs100) (ws := vs103) (h1 := hf1.left.left) (h2 := hf2) (hn := rfl) (hm := rfl) (hnl := by omega) (hml := by omega) (hl1 := fun l hl => by have := hq.2 l hl; omega) (hl2 := fun l hl => by have := hq.2 l hl; omega))) ?_
                      rintro _ _ ⟨rfl, rfl⟩
                      refine tl_env (d := 104) (v := .bool true) (congrArg Value.bool (decide_eq_true rfl)) ?_
                      refine tl_v rfl (o_not rfl) ?_
                      refine tl_nil ?_
                      refine q_then_n ?_
                      refine tc_cond rfl (fun h => ?_) (fun h => ?_)
                      · exfalso; simp at h
                      · try simp only [lv1, lv2, lv3, lv4, lv5, lv6, Bool.not_true, Bool.not_false] at h
                        refine tc_skip ?_
                        refine q_block_n (q_then_n ?_)
                        refine tc_pre (A' := A * Dev d25 s3 * RDev d30 s3 * pt b13 (cl (ints [0, 0, 0, 0, 0]) 23) * pt b14 (cl (ints [0, 0, 0, 0, 0]) 23)) (Dr.sat (by repeat (first | with_reducible exact dr_refl | apply dr_keep | apply dr_drop))) ?_
                        refine tc_reg ?_
                        refine tlm ?_
                        refine tl_v rfl (by first | exact o_addI rfl rfl (by omega) | exact o_add rfl rfl) ?_
                        refine tla ?_
                        refine tl_nil ?_
                        refine q_then_n ?_
                        exact ⟨_, by omega, i + 1, by omega, rfl, rfl, rfl, rfl, rfl, rfl, rfl⟩
                    · try simp only [lv1, lv2, lv3, lv4, lv5, lv6, Bool.not_true, Bool.not_false] at h
                      refine tc_exit ?_
                      refine q_then_e (q_then_e (q_block_x (q_then_n ?_)))
                      refine tc_seq ?_
                      refine tc_reg ?_
                      refine tlm ?_
                      refine tl_c rfl (o_call bd48 rfl (Read_5 (s := s3) (by repeat (first | with_reducible exact ct_here | apply ct_left)) hrd)) ?_
                      rintro _ _ ⟨rfl, rfl⟩
                      refine tlm ?_
                      refine tl_v rfl (o_extract rfl rfl) ?_
                      refine tl_v rfl (o_extract rfl rfl) ?_
                      refine tl_u rfl (o_stUN (l' := ints [q0, q1, q2, q3, q4]) rfl (by repeat (first | with_reducible exact upd_here | with_reducible exact upd_pt | apply upd_left)) sz23 rfl rfl rfl (by show 5 ≤ 5; decide) rfl) ?_
                      refine tla ?_
                      refine tl_nil ?_
                      refine q_then_n ?_
                      refine tc_seq ?_
                      refine tc_reg ?_
                      refine tlm ?_
                      refine tl_c rfl (o_call bd66 rfl (rRead_5 (s := s3) (by repeat (first | with_reducible exact ct_here | apply ct_left)) hrd)) ?_
                      rintro _ _ ⟨rfl, rfl⟩
                      refine tlm ?_
                      refine tl_v rfl (o_extract rfl rfl) ?_
                      refine tl_v rfl (o_extract rfl rfl) ?_
                      refine tl_u rfl (o_stUN (l' := ints [q0, q1, q2, q3, q4]) rfl (by repeat (first | with_reducible exact upd_here | with_reducible exact upd_pt | apply upd_left)) sz23 rfl rfl rfl (by show 5 ≤ 5; decide) rfl) ?_
                      refine tla ?_
                      refine tl_nil ?_
                      refine q_then_n ?_
                      refine tc_seq ?_
                      refine tc_reg ?_
                      refine tlm ?_
                      refine tl_c rfl (o_call bd67 rfl (Root_5 (s := s3) (by repeat (first | with_reducible exact ct_here | apply ct_left)) hroot)) ?_
                      rintro _ _ ⟨rfl, rfl⟩
                      refine tlm ?_
                      refine tl_v rfl (o_extract rfl rfl) ?_
                      refine tl_v rfl (o_extract rfl rfl) ?_
                      refine tla ?_
                      refine tla ?_
                      refine tl_nil ?_
                      refine q_then_n ?_
                      refine tc_seq ?_
                      refine tc_reg ?_
                      refine tlm ?_
                      refine tl_c rfl (o_call bd68 rfl (rRoot_5 (s := s3) (by repeat (first | with_reducible exact ct_here | apply ct_left)) hroot)) ?_
                      rintro _ _ ⟨rfl, rfl⟩
                      refine tlm ?_
                      refine tl_v rfl (o_extract rfl rfl) ?_
                      refine tl_v rfl (o_extract rfl rfl) ?_
                      refine tla ?_
                      refine tla ?_
                      refine tl_nil ?_
                      refine q_then_n ?_
                      refine tc_seq ?_
                      refine tc_reg ?_
                      refine tl_v rfl (o_loadN (vs := ints [q0, q1, q2, q3, q4]) a23 sz23 rfl (by repeat (first | with_reducible exact has_here | with_reducible exact has_pt | apply has_left)) (by show 5 ≤ 5; decide) rfl) ?_
                      refine tl_v rfl (o_loadN (vs := ints [q0, q1, q2, q3, q4]) a23 sz23 rfl (by repeat (first | with_reducible exact has_here | with_reducible exact has_pt | apply has_left)) (by show 5 ≤ 5; decide) rfl) ?_
                      refine tl_v rfl (o_eqst (k := 5) (l := [q0, q1, q2, q3, q4]) (m := [q0, q1, q2, q3, q4]) Try.underlying23 (by kernel_rfl) (by kernel_rfl) (by kernel_rfl) rfl rfl rfl rfl) ?_
                      refine tlm ?_
                      refine tl_bool (d := 129) rfl (fun h => ?_) (fun h => ?_)
                      · try simp only [lv1, lv2, lv3, lv4, lv5, lv6, Bool.not_true, Bool.not_false] at h
                        refine tlm ?_
                        refine tlm ?_
                        refine tl_v rfl (o_eqi rfl rfl) ?_
                        refine tl_v rfl (o_pick_t rfl (by conv => lhs; whnf)) ?_
                        refine tlm ?_
                        refine tl_bool (d := 134) rfl (fun h => ?_) (fun h => ?_)
                        · try simp only [lv1, lv2, lv3, lv4, lv5, lv6, Bool.not_true, Bool.not_false] at h
                          refine tlm ?_
                          refine tlm ?_
                          refine tl_v rfl (o_eqi rfl rfl) ?_
                          refine tl_v rfl (o_pick_t rfl (by conv => lhs; whnf)) ?_
                          refine tlm ?_
                          refine tl_bool (d := 139) rfl (fun h => ?_) (fun h => ?_)
                          · try simp only [lv1, lv2, lv3, lv4, lv5, lv6, Bool.not_true, Bool.not_false] at h
                            refine tlm ?_
                            refine tlm ?_
                            refine tl_v rfl (o_eqi rfl rfl) ?_
                            refine tl_v rfl (o_pick_t rfl (by conv => lhs; whnf)) ?_
                            refine tlm ?_
                            refine tl_bool (d := 144) rfl (fun h => ?_) (fun h => ?_)
                            · try simp only [lv1, lv2, lv3, lv4, lv5, lv6, Bool.not_true, Bool.not_false] at h
                              refine tlm ?_
                              refine tl_c rfl (o_call bd33 rfl (Image_c (s := s3))) ?_
                              rintro _ _ ⟨a146, c146, rfl, hc146, rfl⟩
                              refine tlm ?_
                              refine tl_c rfl (o_call bd70 rfl (rImage_c (s := s3))) ?_
                              rintro _ _ ⟨a148, c148, rfl, hc148, rfl⟩
                              refine tl_c rfl (o_call bd22 rfl (EqBytes_c (xs := imgS s3) (ys := imgS s3) (hx := hil) (hy := hil))) ?_
                              rintro _ _ ⟨rfl, rfl⟩
                              refine tl_env (d := 149) (v := .bool true) (congrArg Value.bool (decide_eq_true rfl)) ?_
                              refine tl_v rfl (o_pick_t rfl (by conv => lhs; whnf)) ?_
                              refine tlm ?_
                              refine tl_bool (d := 151) rfl (fun h => ?_) (fun h => ?_)
                              · try simp only [lv1, lv2, lv3, lv4, lv5, lv6, Bool.not_true, Bool.not_false] at h
                                refine tl_c rfl (o_call bd24 rfl (works_c)) ?_
                                rintro _ _ ⟨rfl, rfl⟩
                                refine tl_v rfl (o_pick_t rfl (by conv => lhs; whnf)) ?_
                                refine tla ?_
                                refine tl_nil ?_
                                refine q_then_n ?_
                                refine tc_ret ?_
                                exact ⟨.bool true, A, res1 rfl rfl, Dr.sat (by repeat (first | with_reducible exact dr_refl | apply dr_keep | apply dr_drop)), rfl, rfl⟩
                              · exfalso; simp at h
                            · exfalso; simp at h
                          · exfalso; simp at h
                        · exfalso; simp at h
                      · exfalso; simp at h
set_option maxRecDepth 20000 in
set_option maxHeartbeats 4000000 in
theorem SuperFormats_ok (A : SP) {n : Nat} {tn af : Int} {fl hcp kc : Nat} {ha ka : Option Addr} {kp : List Int} {hd : List Nat} {rt : Bool} (hrh : Rs A ha (bys hd)) (hhb : ∀ x ∈ hd, x < 256) (hfl : fl < 256) (hht : -9223372036854775808 ≤ tn ∧ tn ≤ 9223372036854775807) (hhl : hd.length ≤ 140737488351232) (hrk : Rs A ka (ints kp)) (hkl : kp.length ≤ 17592186043904) (hkb : ∀ k ∈ kp, k ≤ 9223372036854775807) (haf : -9223372036854775808 ≤ af ∧ af ≤ 9223372036854775807) (hkc : kp.length ≤ kc) {k : Nat} (hk : n = k * 64) (hn : 36992 ≤ n) (hn2 : n ≤ 4194304) :
    Fn Try.prog 17 #[.agg ([.int .i64 (n : Int), .int .u8 (fl : Nat), .slice ha hd.length hcp, .bool rt, .int .i64 tn] : List Value).toArray, .int .i64 af, .slice ka kp.length kc] (A) (fun r B => r = .bool true ∧ B = A) := by
  refine fn_enterW (args := [.agg ([.int .i64 (n : Int), .int .u8 (fl : Nat), .slice ha hd.length hcp, .bool rt, .int .i64 tn] : List Value).toArray, .int .i64 af, .slice ka kp.length kc]) Try.func17 rfl Try.ntmps17 (by simp) ?_
  refine tc_seq ?_
  refine tc_reg ?_
  refine tl_x rfl (o_box rfl rfl) ?_
  rintro _ _ ⟨b3, rfl, rfl⟩
  refine tla ?_
  refine tl_nil ?_
  refine q_then_n ?_
  refine tc_seq ?_
  refine tc_reg ?_
  refine tl_v rfl (o_loadN (vs := [.int .i64 (n : Int), .int .u8 (fl : Nat), .slice ha hd.length hcp, .bool rt, .int .i64 tn]) a121 sz121 rfl (by repeat (first | with_reducible exact has_here | with_reducible exact has_pt | apply has_left)) (by show 5 ≤ 5; decide) rfl) ?_
  refine tl_c rfl (o_call bd64 rfl (ImBytes_ok (hrh := (by repeat (first | exact hrh | apply Rs.left))) (hhb := hhb) (hfl := hfl) (hht := hht) (hn := by omega) (hhl := hhl))) ?_
  rintro _ _ ⟨a21, c21, xs, rfl, hc21, hxl, hxb, rfl⟩
  refine tla ?_
  refine tl_nil ?_
  refine q_then_n ?_
  refine tc_seq ?_
  refine tc_reg ?_
  refine tlm ?_
  refine tl_c rfl (o_call bd39 rfl (CopyBytes_c (xs := xs))) ?_
  rintro _ _ ⟨u24, c24, rfl, hc24, rfl⟩
  refine tl_c rfl (o_call bd42 rfl (From_c (n := k) (xs := xs))) ?_
  rintro _ _ ⟨d25, rfl, rfl⟩
  refine tlm ?_
  refine tl_v rfl (o_extract rfl rfl) ?_
  refine tl_v rfl (o_extract rfl rfl) ?_
  refine tla ?_
  refine tla ?_
  refine tl_nil ?_
  refine q_then_n ?_
  refine tc_seq ?_
  refine tc_reg ?_
  refine tlm ?_
  refine tl_c rfl (o_call bd65 rfl (rFrom_c (n := k) (xs := xs))) ?_
  rintro _ _ ⟨d30, rfl, rfl⟩
  refine tlm ?_
  refine tl_v rfl (o_extract rfl rfl) ?_
  refine tl_v rfl (o_extract rfl rfl) ?_
  refine tla ?_
  refine tla ?_
  refine tl_nil ?_
  refine q_then_n ?_
  refine tc_seq ?_
  refine tc_seq ?_
  refine tc_reg ?_
  refine tlm ?_
  refine tlm ?_
  refine tl_v rfl (o_nei rfl rfl) ?_
  refine tl_nil ?_
  refine q_then_n ?_
  refine tc_cond rfl (fun h => ?_) (fun h => ?_)
  · exfalso; simp at h
  · try simp only [lv1, lv2, lv3, lv4, lv5, lv6, Bool.not_true, Bool.not_false] at h
    refine tc_skip ?_
    refine q_then_n ?_
    refine tc_seq ?_
    refine tc_seq ?_
    refine tc_reg ?_
    refine tlm ?_
    refine tl_v rfl (o_nei rfl rfl) ?_
    refine tl_nil ?_
    refine q_then_n ?_
    refine tc_cond rfl (fun h => ?_) (fun h => ?_)
    · exfalso; simp at h
    · try simp only [lv1, lv2, lv3, lv4, lv5, lv6, Bool.not_true, Bool.not_false] at h
      refine tc_skip ?_
      refine q_then_n ?_
      refine tc_seq ?_
      refine tc_reg ?_
      refine tlm ?_
      refine tlm ?_
      refine tl_v rfl (o_bS (l := [.int .i64 af, .slice ka kp.length kc]) (pv_cons (by conv => lhs; whnf) (pv_cons (by conv => lhs; whnf) pv_nil)) Try.underlying72 z72 (pl72 Try.underlying72) rfl) ?_
      refine tl_x rfl (o_alloc z72 rfl) ?_
      rintro _ _ ⟨b12, rfl, rfl⟩
      refine tl_u rfl (o_stUN (l' := [.int .i64 af, .slice ka kp.length kc]) rfl (by repeat (first | with_reducible exact upd_here | with_reducible exact upd_pt | apply upd_left)) sz72 rfl rfl rfl (by show 2 ≤ 2; decide) rfl) ?_
      refine tl_nil ?_
      refine q_then_n ?_
      refine tc_seq ?_
      refine tc_seq ?_
      refine tc_pre (A' := A * Dev d25 (fromS k xs) * RDev d30 (fromS k xs) * pt b12 (cl [.int .i64 af, .slice ka kp.length kc] 72)) (Dr.sat (by repeat (first | with_reducible exact dr_refl | apply dr_keep | apply dr_drop))) ?_
      refine tc_regh (S := A * pt b12 (cl [.int .i64 af, .slice ka kp.length kc] 72)) mo (by repeat (first | with_reducible exact dr_refl | apply dr_keep | apply dr_drop)) ?_
      show TH _ _ _ _ _ 13 #[false, false, false, false, false, false, false, false, false, false, false, false, false] _ _
      refine th_take (i := 0) (listed' := #[true, false, false, false, false, false, false, false, false, false, false, false, false]) rfl (by kernel_rfl) (by kernel_rfl) (by kernel_rfl) rfl rfl (o_move (by conv => lhs; whnf)) ?_
      refine th_take (i := 1) (listed' := #[true, true, false, false, false, false, false, false, false, false, false, false, false]) rfl (by kernel_rfl) (by kernel_rfl) (by kernel_rfl) rfl rfl (o_gtr rfl rfl) ?_
      refine th_take (i := 2) (listed' := #[true, true, true, false, false, false, false, false, false, false, false, false, false]) rfl (by kernel_rfl) (by kernel_rfl) (by kernel_rfl) rfl rfl (o_move (by conv => lhs; whnf)) ?_
      refine th_bool (d := 44) rfl (fun h => ?_) (fun h => ?_)
      · try simp only [lv1, lv2, lv3, lv4, lv5, lv6, Bool.not_true, Bool.not_false] at h
        refine th_take (i := 3) (listed' := #[true, true, true, true, false, false, false, false, false, false, false, false, false]) rfl (by kernel_rfl) (by kernel_rfl) (by kernel_rfl) rfl rfl (o_move (by conv => lhs; whnf)) ?_
        refine th_take (i := 4) (listed' := #[true, true, true, true, true, false, false, false, false, false, false, false, false]) rfl (by kernel_rfl) (by kernel_rfl) (by kernel_rfl) rfl rfl (o_loadN (vs := [.int .i64 af, .slice ka kp.length kc]) a72 sz72 rfl (by repeat (first | with_reducible exact has_here | with_reducible exact has_pt | apply has_left)) (by show 2 ≤ 2; decide) rfl) ?_
        refine th_take (i := 7) (listed' := #[true, true, true, true, true, false, false, true, false, false, false, false, false]) rfl (by kernel_rfl) (by kernel_rfl) (by kernel_rfl) rfl rfl (o_move (by conv => lhs; whnf)) ?_
        refine th_take (i := 8) (listed' := #[true, true, true, true, true, false, false, true, true, false, false, false, false]) rfl (by kernel_rfl) (by kernel_rfl) (by kernel_rfl) rfl rfl (o_loadN (vs := [.int .i64 af, .slice ka kp.length kc]) a72 sz72 rfl (by repeat (first | with_reducible exact has_here | with_reducible exact has_pt | apply has_left)) (by show 2 ≤ 2; decide) rfl) ?_
        refine th_two (i := 5) (j := 9) (by kernel_rfl) ?_ ?_
        · skip
          refine oh_x (i := 5) (listed' := #[true, true, true, true, true, true, false, true, true, false, false, false, false]) rfl rfl rfl (o_buildSliceK (k := 2) (l := [.int .i64 af, .slice ka kp.length kc]) Try.underlying74 sz72 z72 rfl rfl (by decide)) ?_
          rintro _ _ ⟨b47, rfl, rfl⟩
          refine ⟨by repeat (first | with_reducible exact dr_refl | apply dr_keep | apply dr_drop), ?_⟩
          refine th_two (i := 6) (j := 9) (by kernel_rfl) ?_ ?_
          · skip
            refine oh_c (i := 6) (listed' := #[true, true, true, true, true, true, true, true, true, false, false, false, false]) rfl rfl rfl (o_call bd44 rfl (Arm_c (s := fromS k xs) (kvs := [.slice ka kp.length kc]) (ars := [(af, kp)]) (hm := rfl) (hr := ⟨by repeat (first | assumption | exact rs_sl | exact rs_pt0 | exact rs_none | apply Rs.left), rfl, fun i h => by have h0 : i = 0 := (by simpa using h); subst h0; exact ⟨_, _, rfl, (by show kp.length ≤ _; exact hkc), (by repeat (first | exact hrk | apply Rs.left))⟩⟩) (hk := fun x hx => by simp only [List.mem_singleton] at hx; subst hx; exact ⟨by constructor <;> (show _ ≤ _) <;> omega, by show kp.length ≤ _; omega, hkb⟩))) ?_
            rintro _ _ ⟨e48, s48, hs48, rfl, rfl⟩
            refine ⟨by repeat (first | with_reducible exact dr_refl | apply dr_keep | apply dr_drop), ?_⟩
            refine th_one (i := 9) (by kernel_rfl) ?_
            refine oh_x (i := 9) (listed' := #[true, true, true, true, true, true, true, true, true, true, false, false, false]) rfl rfl rfl (o_buildSliceK (k := 2) (l := [.int .i64 af, .slice ka kp.length kc]) Try.underlying74 sz72 z72 rfl rfl (by decide)) ?_
            rintro _ _ ⟨b51, rfl, rfl⟩
            refine ⟨by repeat (first | with_reducible exact dr_refl | apply dr_keep | apply dr_drop), ?_⟩
            refine th_one (i := 10) (by kernel_rfl) ?_
            refine oh_c (i := 10) (listed' := #[true, true, true, true, true, true, true, true, true, true, true, false, false]) rfl rfl rfl (o_call bd77 rfl (rArm_c (s := fromS k xs) (kvs := [.slice ka kp.length kc]) (ars := [(af, kp)]) (hm := rfl) (hr := ⟨by repeat (first | assumption | exact rs_sl | exact rs_pt0 | exact rs_none | apply Rs.left), rfl, fun i h => by have h0 : i = 0 := (by simpa using h); subst h0; exact ⟨_, _, rfl, (by show kp.length ≤ _; exact hkc), (by repeat (first | exact hrk | apply Rs.left))⟩⟩) (hk := fun x hx => by simp only [List.mem_singleton] at hx; subst hx; exact ⟨by constructor <;> (show _ ≤ _) <;> omega, by show kp.length ≤ _; omega, hkb⟩))) ?_
            rintro _ _ ⟨e52, s52, hs52, rfl, rfl⟩
            refine ⟨by repeat (first | with_reducible exact dr_refl | apply dr_keep | apply dr_drop), ?_⟩
            obtain ⟨rfl, rfl⟩ : e48 = e52 ∧ s48 = s52 := by rw [hs48] at hs52; simpa using hs52
            refine th_take (i := 11) (listed' := #[true, true, true, true, true, true, true, true, true, true, true, true, false]) rfl (by kernel_rfl) (by kernel_rfl) (by kernel_rfl) rfl rfl (o_nei rfl rfl) ?_
            refine th_take (i := 12) (listed' := #[true, true, true, true, true, true, true, true, true, true, true, true, true]) rfl (by kernel_rfl) (by kernel_rfl) (by kernel_rfl) rfl rfl (o_pick_t rfl (by conv => lhs; whnf)) ?_
            refine th_done (by kernel_rfl) ?_
            refine q_then_n ?_
            refine tc_cond rfl (fun h => ?_) (fun h => ?_)
            · exfalso; simp at h
            · try simp only [lv1, lv2, lv3, lv4, lv5, lv6, Bool.not_true, Bool.not_false] at h
              refine tc_skip ?_
              refine q_then_n ?_
              refine tc_seq ?_
              refine tc_pre (A' := A * Dev d25 s48 * RDev d30 s48) (Dr.sat (by repeat (first | with_reducible exact dr_refl | apply dr_keep | apply dr_drop))) ?_
              have hs48q : s48.off = false ∧ s48.ls = (fromS k xs).ls := by first | exact ha0 | exact armS_any (from_live k xs).1 (from_live k xs).2 hs48
              have hl48 : s48.ls.length = k := by rw [hs48q.2]; exact from_lslen k xs
              refine tc_reg ?_
              refine tlm ?_
              obtain ⟨m0, m1, m2, m3, m4, hfm⟩ := five_i (fmA_len n s48)
              have hroom : Room 256 s48 := fun l hl => by rw [hs48q.2] at hl; exact room_from (by decide) l hl
              refine tl_c rfl (o_call bd75 rfl (Format_ok (s := s48) (n := n) (hoff := hs48q.1) (hlen := by omega) (hn := by omega) (hroom := hroom))) ?_
              rintro _ _ ⟨e57, s57, hs57, rfl, rfl⟩
              rw [hfm]
              refine tlm ?_
              refine tl_v rfl (o_extract rfl rfl) ?_
              refine tl_v rfl (o_extract rfl rfl) ?_
              refine tl_x rfl (o_alloc z23 rfl) ?_
              rintro _ _ ⟨b13, rfl, rfl⟩
              refine tl_u rfl (o_stUN (l' := ints [m0, m1, m2, m3, m4]) rfl (by repeat (first | with_reducible exact upd_here | with_reducible exact upd_pt | apply upd_left)) sz23 rfl rfl rfl (by show 5 ≤ 5; decide) rfl) ?_
              refine tla ?_
              refine tl_nil ?_
              refine q_then_n ?_
              refine tc_seq ?_
              refine tc_reg ?_
              refine tlm ?_
              refine tl_c rfl (o_call bd78 rfl (rFormat_ok (s := s48) (n := n) (hoff := hs48q.1) (hlen := by omega) (hn := by omega) (hroom := hroom))) ?_
              rintro _ _ ⟨e62, s62, hs62, rfl, rfl⟩
              obtain ⟨rfl, rfl⟩ : e57 = e62 ∧ s57 = s62 := by rw [hs57] at hs62; simpa using hs62
              rw [hfm]
              refine tlm ?_
              refine tl_v rfl (o_extract rfl rfl) ?_
              refine tl_v rfl (o_extract rfl rfl) ?_
              refine tl_x rfl (o_alloc z23 rfl) ?_
              rintro _ _ ⟨b14, rfl, rfl⟩
              refine tl_u rfl (o_stUN (l' := ints [m0, m1, m2, m3, m4]) rfl (by repeat (first | with_reducible exact upd_here | with_reducible exact upd_pt | apply upd_left)) sz23 rfl rfl rfl (by show 5 ≤ 5; decide) rfl) ?_
              refine tla ?_
              refine tl_nil ?_
              refine q_then_n ?_
              refine tc_seq ?_
              refine tc_seq ?_
              refine tc_reg ?_
              refine tl_v rfl (o_loadN (vs := ints [m0, m1, m2, m3, m4]) a23 sz23 rfl (by repeat (first | with_reducible exact has_here | with_reducible exact has_pt | apply has_left)) (by show 5 ≤ 5; decide) rfl) ?_
              refine tl_v rfl (o_loadN (vs := ints [m0, m1, m2, m3, m4]) a23 sz23 rfl (by repeat (first | with_reducible exact has_here | with_reducible exact has_pt | apply has_left)) (by show 5 ≤ 5; decide) rfl) ?_
              refine tl_v rfl (o_nest (k := 5) (l := [m0, m1, m2, m3, m4]) (m := [m0, m1, m2, m3, m4]) Try.underlying23 (by kernel_rfl) (by kernel_rfl) (by kernel_rfl) rfl rfl rfl rfl) ?_
              refine tlm ?_
              refine tl_bool (d := 68) rfl (fun h => ?_) (fun h => ?_)
              · exfalso; simp at h
              · try simp only [lv1, lv2, lv3, lv4, lv5, lv6, Bool.not_true, Bool.not_false] at h
                refine tlm ?_
                refine tlm ?_
                refine tl_v rfl (o_nei rfl rfl) ?_
                refine tl_v rfl (o_pick_f rfl (by conv => lhs; whnf)) ?_
                refine tlm ?_
                refine tl_bool (d := 73) rfl (fun h => ?_) (fun h => ?_)
                · exfalso; simp at h
                · try simp only [lv1, lv2, lv3, lv4, lv5, lv6, Bool.not_true, Bool.not_false] at h
                  refine tlm ?_
                  refine tl_c rfl (o_call bd41 rfl (Ops_c (s := s57))) ?_
                  rintro _ _ ⟨rfl, rfl⟩
                  refine tlm ?_
                  refine tl_c rfl (o_call bd69 rfl (rOps_c (s := s57))) ?_
                  rintro _ _ ⟨rfl, rfl⟩
                  refine tl_v rfl (o_nei rfl rfl) ?_
                  refine tl_v rfl (o_pick_f rfl (by conv => lhs; whnf)) ?_
                  refine tlm ?_
                  refine tl_bool (d := 80) rfl (fun h => ?_) (fun h => ?_)
                  · exfalso; simp at h
                  · try simp only [lv1, lv2, lv3, lv4, lv5, lv6, Bool.not_true, Bool.not_false] at h
                    refine tlm ?_
                    refine tl_c rfl (o_call bd31 rfl (Off_c (s := s57))) ?_
                    rintro _ _ ⟨rfl, rfl⟩
                    refine tlm ?_
                    refine tl_c rfl (o_call bd79 rfl (rOff_c (s := s57))) ?_
                    rintro _ _ ⟨rfl, rfl⟩
                    refine tl_v rfl (o_neb Try.underlying4 rfl rfl) ?_
                    refine tl_v rfl (o_pick_f rfl (by conv => lhs; whnf)) ?_
                    refine tlm ?_
                    refine tl_bool (d := 87) rfl (fun h => ?_) (fun h => ?_)
                    · exfalso; simp at h
                    · try simp only [lv1, lv2, lv3, lv4, lv5, lv6, Bool.not_true, Bool.not_false] at h
                      refine tlm ?_
                      refine tl_c rfl (o_call bd32 rfl (Wake_c (s := s57))) ?_
                      rintro _ _ ⟨rfl, rfl⟩
                      refine tlm ?_
                      refine tl_c rfl (o_call bd80 rfl (rWake_c (s := s57))) ?_
                      rintro _ _ ⟨rfl, rfl⟩
                      refine tl_v rfl (o_nei rfl rfl) ?_
                      refine tl_v rfl (o_pick_f rfl (by conv => lhs; whnf)) ?_
                      refine tl_nil ?_
                      refine q_then_n ?_
                      refine tc_cond rfl (fun h => ?_) (fun h => ?_)
                      · exfalso; simp at h
                      · try simp only [lv1, lv2, lv3, lv4, lv5, lv6, Bool.not_true, Bool.not_false] at h
                        refine tc_skip ?_
                        refine q_then_n ?_
                        refine tc_seq ?_
                        refine tc_seq ?_
                        obtain ⟨s3, hs3⟩ : ∃ s3, s3 = { s57 with off := false } := ⟨_, rfl⟩
                        rw [← hs3]
                        refine tc_have (fun _ _ h => wfR_ct (r := d30) (s := s3) (by repeat (first | with_reducible exact ct_here | apply ct_left)) h) fun hw3 => ?_
                        have hil := imgS_len hw3
                        have htop3 := hw3.top
                        obtain ⟨q0, q1, q2, q3, q4, hq⟩ := five_i (rdA_len s3)
                        obtain ⟨e0, he0⟩ : ∃ e0, e0 = (rdA s3).2 := ⟨_, rfl⟩
                        have hrd : rdA s3 = ([q0, q1, q2, q3, q4], e0) := by rw [← hq, he0]
                        obtain ⟨w6, hw6⟩ : ∃ w6, w6 = (rootA s3).1 := ⟨_, rfl⟩
                        obtain ⟨e6, he6⟩ : ∃ e6, e6 = (rootA s3).2 := ⟨_, rfl⟩
                        have hroot : rootA s3 = (w6, e6) := by rw [hw6, he6]
                        refine tc_reg ?_
                        refine tla ?_
                        refine tl_nil ?_
                        refine q_then_n ?_
                        refine tc_block ?_
                        refine tc_loop (fun kk ρ BB => ∃ (i : Nat), (i ≤ 4) ∧ kk = 4 - i ∧ ρ 15 = .int .i64 (i : Nat) ∧ ρ 8 = .pointer (some ⟨d25, 0, none⟩) ∧ ρ 10 = .pointer (some ⟨d30, 0, none⟩) ∧ ρ 13 = .pointer (some ⟨b13, 0, none⟩) ∧ ρ 14 = .pointer (some ⟨b14, 0, none⟩) ∧ BB = A * Dev d25 s3 * RDev d30 s3 * pt b13 (cl (ints [m0, m1, m2, m3, m4]) 23) * pt b14 (cl (ints [m0, m1, m2, m3, m4]) 23)) (m := 4 - (0)) ?_ ?_
                        · exact ⟨0, by omega, rfl, rfl, rfl, rfl, rfl, rfl, rfl⟩
                        · intro k ρ B hI
                          obtain ⟨i, hp0, hkk1, hE15, hE8, hE10, hE13, hE14, rfl⟩ := hI
                          refine tc_env (d := 15) hE15 ?_
                          refine tc_env (d := 8) hE8 ?_
                          refine tc_env (d := 10) hE10 ?_
                          refine tc_env (d := 13) hE13 ?_
                          refine tc_env (d := 14) hE14 ?_
                          clear hE15 hE8 hE10 hE13 hE14
                          refine tc_seq ?_
                          refine tc_seq ?_
                          refine tc_reg ?_
                          refine tlm ?_
                          refine tl_v rfl (o_lss rfl rfl) ?_
                          refine tl_nil ?_
                          refine q_then_n ?_
                          refine tc_cond rfl (fun h => ?_) (fun h => ?_)
                          · try simp only [lv1, lv2, lv3, lv4, lv5, lv6, Bool.not_true, Bool.not_false] at h
                            refine tc_skip ?_
                            refine q_then_n ?_
                            refine tc_seq ?_
                            refine tc_block ?_
                            refine tc_seq ?_
                            refine tc_reg ?_
                            refine tlm ?_
                            refine tlm ?_
                            refine tl_c rfl (o_call bd35 rfl (Contents_any (s := s3) (q := i))) ?_
                            rintro _ _ ⟨a100, c100, vs100, rfl, hc100, rfl⟩
                            refine tlm ?_
                            refine tlm ?_
                            refine tl_c rfl (o_call bd82 rfl (rContents_any (s := s3) (q := i))) ?_
                            rintro _ _ ⟨a103, c103, vs103, rfl, hc103, rfl⟩
                            have hq := ctS_rows hw3 i
                            refine tl_have (fun _ _ h => rwF_parts h) fun hf2 => ?_
                            refine tl_have (fun _ _ h => rwF_parts h.left.left) fun hf1 => ?_
                            refine tl_c rfl (o_call bd81 rfl (EqRows_c (ls := ctS i s3) (ms := ctS i s3) (vs := vs100) (ws := vs103) (h1 := hf1.left.left) (h2 := hf2) (hn := rfl) (hm := rfl) (hnl := by omega) (hml := by omega) (hl1 := fun l hl => by have := hq.2 l hl; omega) (hl2 := fun l hl => by have := hq.2 l hl; omega))) ?_
                            rintro _ _ ⟨rfl, rfl⟩
                            refine tl_env (d := 104) (v := .bool true) (congrArg Value.bool (decide_eq_true rfl)) ?_
                            refine tl_v rfl (o_not rfl) ?_
                            refine tl_nil ?_
                            refine q_then_n ?_
                            refine tc_cond rfl (fun h => ?_) (fun h => ?_)
                            · exfalso; simp at h
                            · try simp only [lv1, lv2, lv3, lv4, lv5, lv6, Bool.not_true, Bool.not_false] at h
                              refine tc_skip ?_
                              refine q_block_n (q_then_n ?_)
                              refine tc_pre (A' := A * Dev d25 s3 * RDev d30 s3 * pt b13 (cl (ints [m0, m1, m2, m3, m4]) 23) * pt b14 (cl (ints [m0, m1, m2, m3, m4]) 23)) (Dr.sat (by repeat (first | with_reducible exact dr_refl | apply dr_keep | apply dr_drop))) ?_
                              refine tc_reg ?_
                              refine tlm ?_
                              refine tl_v rfl (by first | exact o_addI rfl rfl (by omega) | exact o_add rfl rfl) ?_
                              refine tla ?_
                              refine tl_nil ?_
                              refine q_then_n ?_
                              exact ⟨_, by omega, i + 1, by omega, rfl, rfl, rfl, rfl, rfl, rfl, rfl⟩
                          · try simp only [lv1, lv2, lv3, lv4, lv5, lv6, Bool.not_true, Bool.not_false] at h
                            refine tc_exit ?_
                            refine q_then_e (q_then_e (q_block_x (q_then_n ?_)))
                            refine tc_seq ?_
                            refine tc_reg ?_
                            refine tlm ?_
                            refine tl_c rfl (o_call bd48 rfl (Read_5 (s := s3) (by repeat (first | with_reducible exact ct_here | apply ct_left)) hrd)) ?_
                            rintro _ _ ⟨rfl, rfl⟩
                            refine tlm ?_
                            refine tl_v rfl (o_extract rfl rfl) ?_
                            refine tl_v rfl (o_extract rfl rfl) ?_
                            refine tl_u rfl (o_stUN (l' := ints [q0, q1, q2, q3, q4]) rfl (by repeat (first | with_reducible exact upd_here | with_reducible exact upd_pt | apply upd_left)) sz23 rfl rfl rfl (by show 5 ≤ 5; decide) rfl) ?_
                            refine tla ?_
                            refine tl_nil ?_
                            refine q_then_n ?_
                            refine tc_seq ?_
                            refine tc_reg ?_
                            refine tlm ?_
                            refine tl_c rfl (o_call bd66 rfl (rRead_5 (s := s3) (by repeat (first | with_reducible exact ct_here | apply ct_left)) hrd)) ?_
                            rintro _ _ ⟨rfl, rfl⟩
                            refine tlm ?_
                            refine tl_v rfl (o_extract rfl rfl) ?_
                            refine tl_v rfl (o_extract rfl rfl) ?_
                            refine tl_u rfl (o_stUN (l' := ints [q0, q1, q2, q3, q4]) rfl (by repeat (first | with_reducible exact upd_here | with_reducible exact upd_pt | apply upd_left)) sz23 rfl rfl rfl (by show 5 ≤ 5; decide) rfl) ?_
                            refine tla ?_
                            refine tl_nil ?_
                            refine q_then_n ?_
                            refine tc_seq ?_
                            refine tc_reg ?_
                            refine tlm ?_
                            refine tl_c rfl (o_call bd67 rfl (Root_5 (s := s3) (by repeat (first | with_reducible exact ct_here | apply ct_left)) hroot)) ?_
                            rintro _ _ ⟨rfl, rfl⟩
                            refine tlm ?_
                            refine tl_v rfl (o_extract rfl rfl) ?_
                            refine tl_v rfl (o_extract rfl rfl) ?_
                            refine tla ?_
                            refine tla ?_
                            refine tl_nil ?_
                            refine q_then_n ?_
                            refine tc_seq ?_
                            refine tc_reg ?_
                            refine tlm ?_
                            refine tl_c rfl (o_call bd68 rfl (rRoot_5 (s := s3) (by repeat (first | with_reducible exact ct_here | apply ct_left)) hroot)) ?_
                            rintro _ _ ⟨rfl, rfl⟩
                            refine tlm ?_
                            refine tl_v rfl (o_extract rfl rfl) ?_
                            refine tl_v rfl (o_extract rfl rfl) ?_
                            refine tla ?_
                            refine tla ?_
                            refine tl_nil ?_
                            refine q_then_n ?_
                            refine tc_seq ?_
                            refine tc_reg ?_
                            refine tl_v rfl (o_loadN (vs := ints [q0, q1, q2, q3, q4]) a23 sz23 rfl (by repeat (first | with_reducible exact has_here | with_reducible exact has_pt | apply has_left)) (by show 5 ≤ 5; decide) rfl) ?_
                            refine tl_v rfl (o_loadN (vs := ints [q0, q1, q2, q3, q4]) a23 sz23 rfl (by repeat (first | with_reducible exact has_here | with_reducible exact has_pt | apply has_left)) (by show 5 ≤ 5; decide) rfl) ?_
                            refine tl_v rfl (o_eqst (k := 5) (l := [q0, q1, q2, q3, q4]) (m := [q0, q1, q2, q3, q4]) Try.underlying23 (by kernel_rfl) (by kernel_rfl) (by kernel_rfl) rfl rfl rfl rfl) ?_
                            refine tlm ?_
                            refine tl_bool (d := 129) rfl (fun h => ?_) (fun h => ?_)
                            · try simp only [lv1, lv2, lv3, lv4, lv5, lv6, Bool.not_true, Bool.not_false] at h
                              refine tlm ?_
                              refine tlm ?_
                              refine tl_v rfl (o_eqi rfl rfl) ?_
                              refine tl_v rfl (o_pick_t rfl (by conv => lhs; whnf)) ?_
                              refine tlm ?_
                              refine tl_bool (d := 134) rfl (fun h => ?_) (fun h => ?_)
                              · try simp only [lv1, lv2, lv3, lv4, lv5, lv6, Bool.not_true, Bool.not_false] at h
                                refine tlm ?_
                                refine tlm ?_
                                refine tl_v rfl (o_eqi rfl rfl) ?_
                                refine tl_v rfl (o_pick_t rfl (by conv => lhs; whnf)) ?_
                                refine tlm ?_
                                refine tl_bool (d := 139) rfl (fun h => ?_) (fun h => ?_)
                                · try simp only [lv1, lv2, lv3, lv4, lv5, lv6, Bool.not_true, Bool.not_false] at h
                                  refine tlm ?_
                                  refine tlm ?_
                                  refine tl_v rfl (o_eqi rfl rfl) ?_
                                  refine tl_v rfl (o_pick_t rfl (by conv => lhs; whnf)) ?_
                                  refine tlm ?_
                                  refine tl_bool (d := 144) rfl (fun h => ?_) (fun h => ?_)
                                  · try simp only [lv1, lv2, lv3, lv4, lv5, lv6, Bool.not_true, Bool.not_false] at h
                                    refine tlm ?_
                                    refine tl_c rfl (o_call bd33 rfl (Image_c (s := s3))) ?_
                                    rintro _ _ ⟨a146, c146, rfl, hc146, rfl⟩
                                    refine tlm ?_
                                    refine tl_c rfl (o_call bd70 rfl (rImage_c (s := s3))) ?_
                                    rintro _ _ ⟨a148, c148, rfl, hc148, rfl⟩
                                    refine tl_c rfl (o_call bd22 rfl (EqBytes_c (xs := imgS s3) (ys := imgS s3) (hx := hil) (hy := hil))) ?_
                                    rintro _ _ ⟨rfl, rfl⟩
                                    refine tl_env (d := 149) (v := .bool true) (congrArg Value.bool (decide_eq_true rfl)) ?_
                                    refine tl_v rfl (o_pick_t rfl (by conv => lhs; whnf)) ?_
                                    refine tlm ?_
                                    refine tl_bool (d := 151) rfl (fun h => ?_) (fun h => ?_)
                                    · try simp only [lv1, lv2, lv3, lv4, lv5, lv6, Bool.not_true, Bool.not_false] at h
                                      refine tl_c rfl (o_call bd24 rfl (works_c)) ?_
                                      rintro _ _ ⟨rfl, rfl⟩
                                      refine tl_v rfl (o_pick_t rfl (by conv => lhs; whnf)) ?_
                                      refine tla ?_
                                      refine tl_nil ?_
                                      refine q_then_n ?_
                                      refine tc_ret ?_
                                      exact ⟨.bool true, A, res1 rfl rfl, Dr.sat (by repeat (first | with_reducible exact dr_refl | apply dr_keep | apply dr_drop)), rfl, rfl⟩
                                    · exfalso; simp at h
                                  · exfalso; simp at h
                                · exfalso; simp at h
                              · exfalso; simp at h
                            · exfalso; simp at h
          · skip
            refine oh_x (i := 9) (listed' := #[true, true, true, true, true, true, false, true, true, true, false, false, false]) rfl rfl rfl (o_buildSliceK (k := 2) (l := [.int .i64 af, .slice ka kp.length kc]) Try.underlying74 sz72 z72 rfl rfl (by decide)) ?_
            rintro _ _ ⟨b51, rfl, rfl⟩
            refine ⟨by repeat (first | with_reducible exact dr_refl | apply dr_keep | apply dr_drop), ?_⟩
            refine th_one (i := 6) (by kernel_rfl) ?_
            refine oh_c (i := 6) (listed' := #[true, true, true, true, true, true, true, true, true, true, false, false, false]) rfl rfl rfl (o_call bd44 rfl (Arm_c (s := fromS k xs) (kvs := [.slice ka kp.length kc]) (ars := [(af, kp)]) (hm := rfl) (hr := ⟨by repeat (first | assumption | exact rs_sl | exact rs_pt0 | exact rs_none | apply Rs.left), rfl, fun i h => by have h0 : i = 0 := (by simpa using h); subst h0; exact ⟨_, _, rfl, (by show kp.length ≤ _; exact hkc), (by repeat (first | exact hrk | apply Rs.left))⟩⟩) (hk := fun x hx => by simp only [List.mem_singleton] at hx; subst hx; exact ⟨by constructor <;> (show _ ≤ _) <;> omega, by show kp.length ≤ _; omega, hkb⟩))) ?_
            rintro _ _ ⟨e48, s48, hs48, rfl, rfl⟩
            refine ⟨by repeat (first | with_reducible exact dr_refl | apply dr_keep | apply dr_drop), ?_⟩
            refine th_one (i := 10) (by kernel_rfl) ?_
            refine oh_c (i := 10) (listed' := #[true, true, true, true, true, true, true, true, true, true, true, false, false]) rfl rfl rfl (o_call bd77 rfl (rArm_c (s := fromS k xs) (kvs := [.slice ka kp.length kc]) (ars := [(af, kp)]) (hm := rfl) (hr := ⟨by repeat (first | assumption | exact rs_sl | exact rs_pt0 | exact rs_none | apply Rs.left), rfl, fun i h => by have h0 : i = 0 := (by simpa using h); subst h0; exact ⟨_, _, rfl, (by show kp.length ≤ _; exact hkc), (by repeat (first | exact hrk | apply Rs.left))⟩⟩) (hk := fun x hx => by simp only [List.mem_singleton] at hx; subst hx; exact ⟨by constructor <;> (show _ ≤ _) <;> omega, by show kp.length ≤ _; omega, hkb⟩))) ?_
            rintro _ _ ⟨e52, s52, hs52, rfl, rfl⟩
            refine ⟨by repeat (first | with_reducible exact dr_refl | apply dr_keep | apply dr_drop), ?_⟩
            obtain ⟨rfl, rfl⟩ : e48 = e52 ∧ s48 = s52 := by rw [hs48] at hs52; simpa using hs52
            refine th_take (i := 11) (listed' := #[true, true, true, true, true, true, true, true, true, true, true, true, false]) rfl (by kernel_rfl) (by kernel_rfl) (by kernel_rfl) rfl rfl (o_nei rfl rfl) ?_
            refine th_take (i := 12) (listed' := #[true, true, true, true, true, true, true, true, true, true, true, true, true]) rfl (by kernel_rfl) (by kernel_rfl) (by kernel_rfl) rfl rfl (o_pick_t rfl (by conv => lhs; whnf)) ?_
            refine th_done (by kernel_rfl) ?_
            refine q_then_n ?_
            refine tc_cond rfl (fun h => ?_) (fun h => ?_)
            · exfalso; simp at h
            · try simp only [lv1, lv2, lv3, lv4, lv5, lv6, Bool.not_true, Bool.not_false] at h
              refine tc_skip ?_
              refine q_then_n ?_
              refine tc_seq ?_
              refine tc_pre (A' := A * Dev d25 s48 * RDev d30 s48) (Dr.sat (by repeat (first | with_reducible exact dr_refl | apply dr_keep | apply dr_drop))) ?_
              have hs48q : s48.off = false ∧ s48.ls = (fromS k xs).ls := by first | exact ha0 | exact armS_any (from_live k xs).1 (from_live k xs).2 hs48
              have hl48 : s48.ls.length = k := by rw [hs48q.2]; exact from_lslen k xs
              refine tc_reg ?_
              refine tlm ?_
              obtain ⟨m0, m1, m2, m3, m4, hfm⟩ := five_i (fmA_len n s48)
              have hroom : Room 256 s48 := fun l hl => by rw [hs48q.2] at hl; exact room_from (by decide) l hl
              refine tl_c rfl (o_call bd75 rfl (Format_ok (s := s48) (n := n) (hoff := hs48q.1) (hlen := by omega) (hn := by omega) (hroom := hroom))) ?_
              rintro _ _ ⟨e57, s57, hs57, rfl, rfl⟩
              rw [hfm]
              refine tlm ?_
              refine tl_v rfl (o_extract rfl rfl) ?_
              refine tl_v rfl (o_extract rfl rfl) ?_
              refine tl_x rfl (o_alloc z23 rfl) ?_
              rintro _ _ ⟨b13, rfl, rfl⟩
              refine tl_u rfl (o_stUN (l' := ints [m0, m1, m2, m3, m4]) rfl (by repeat (first | with_reducible exact upd_here | with_reducible exact upd_pt | apply upd_left)) sz23 rfl rfl rfl (by show 5 ≤ 5; decide) rfl) ?_
              refine tla ?_
              refine tl_nil ?_
              refine q_then_n ?_
              refine tc_seq ?_
              refine tc_reg ?_
              refine tlm ?_
              refine tl_c rfl (o_call bd78 rfl (rFormat_ok (s := s48) (n := n) (hoff := hs48q.1) (hlen := by omega) (hn := by omega) (hroom := hroom))) ?_
              rintro _ _ ⟨e62, s62, hs62, rfl, rfl⟩
              obtain ⟨rfl, rfl⟩ : e57 = e62 ∧ s57 = s62 := by rw [hs57] at hs62; simpa using hs62
              rw [hfm]
              refine tlm ?_
              refine tl_v rfl (o_extract rfl rfl) ?_
              refine tl_v rfl (o_extract rfl rfl) ?_
              refine tl_x rfl (o_alloc z23 rfl) ?_
              rintro _ _ ⟨b14, rfl, rfl⟩
              refine tl_u rfl (o_stUN (l' := ints [m0, m1, m2, m3, m4]) rfl (by repeat (first | with_reducible exact upd_here | with_reducible exact upd_pt | apply upd_left)) sz23 rfl rfl rfl (by show 5 ≤ 5; decide) rfl) ?_
              refine tla ?_
              refine tl_nil ?_
              refine q_then_n ?_
              refine tc_seq ?_
              refine tc_seq ?_
              refine tc_reg ?_
              refine tl_v rfl (o_loadN (vs := ints [m0, m1, m2, m3, m4]) a23 sz23 rfl (by repeat (first | with_reducible exact has_here | with_reducible exact has_pt | apply has_left)) (by show 5 ≤ 5; decide) rfl) ?_
              refine tl_v rfl (o_loadN (vs := ints [m0, m1, m2, m3, m4]) a23 sz23 rfl (by repeat (first | with_reducible exact has_here | with_reducible exact has_pt | apply has_left)) (by show 5 ≤ 5; decide) rfl) ?_
              refine tl_v rfl (o_nest (k := 5) (l := [m0, m1, m2, m3, m4]) (m := [m0, m1, m2, m3, m4]) Try.underlying23 (by kernel_rfl) (by kernel_rfl) (by kernel_rfl) rfl rfl rfl rfl) ?_
              refine tlm ?_
              refine tl_bool (d := 68) rfl (fun h => ?_) (fun h => ?_)
              · exfalso; simp at h
              · try simp only [lv1, lv2, lv3, lv4, lv5, lv6, Bool.not_true, Bool.not_false] at h
                refine tlm ?_
                refine tlm ?_
                refine tl_v rfl (o_nei rfl rfl) ?_
                refine tl_v rfl (o_pick_f rfl (by conv => lhs; whnf)) ?_
                refine tlm ?_
                refine tl_bool (d := 73) rfl (fun h => ?_) (fun h => ?_)
                · exfalso; simp at h
                · try simp only [lv1, lv2, lv3, lv4, lv5, lv6, Bool.not_true, Bool.not_false] at h
                  refine tlm ?_
                  refine tl_c rfl (o_call bd41 rfl (Ops_c (s := s57))) ?_
                  rintro _ _ ⟨rfl, rfl⟩
                  refine tlm ?_
                  refine tl_c rfl (o_call bd69 rfl (rOps_c (s := s57))) ?_
                  rintro _ _ ⟨rfl, rfl⟩
                  refine tl_v rfl (o_nei rfl rfl) ?_
                  refine tl_v rfl (o_pick_f rfl (by conv => lhs; whnf)) ?_
                  refine tlm ?_
                  refine tl_bool (d := 80) rfl (fun h => ?_) (fun h => ?_)
                  · exfalso; simp at h
                  · try simp only [lv1, lv2, lv3, lv4, lv5, lv6, Bool.not_true, Bool.not_false] at h
                    refine tlm ?_
                    refine tl_c rfl (o_call bd31 rfl (Off_c (s := s57))) ?_
                    rintro _ _ ⟨rfl, rfl⟩
                    refine tlm ?_
                    refine tl_c rfl (o_call bd79 rfl (rOff_c (s := s57))) ?_
                    rintro _ _ ⟨rfl, rfl⟩
                    refine tl_v rfl (o_neb Try.underlying4 rfl rfl) ?_
                    refine tl_v rfl (o_pick_f rfl (by conv => lhs; whnf)) ?_
                    refine tlm ?_
                    refine tl_bool (d := 87) rfl (fun h => ?_) (fun h => ?_)
                    · exfalso; simp at h
                    · try simp only [lv1, lv2, lv3, lv4, lv5, lv6, Bool.not_true, Bool.not_false] at h
                      refine tlm ?_
                      refine tl_c rfl (o_call bd32 rfl (Wake_c (s := s57))) ?_
                      rintro _ _ ⟨rfl, rfl⟩
                      refine tlm ?_
                      refine tl_c rfl (o_call bd80 rfl (rWake_c (s := s57))) ?_
                      rintro _ _ ⟨rfl, rfl⟩
                      refine tl_v rfl (o_nei rfl rfl) ?_
                      refine tl_v rfl (o_pick_f rfl (by conv => lhs; whnf)) ?_
                      refine tl_nil ?_
                      refine q_then_n ?_
                      refine tc_cond rfl (fun h => ?_) (fun h => ?_)
                      · exfalso; simp at h
                      · try simp only [lv1, lv2, lv3, lv4, lv5, lv6, Bool.not_true, Bool.not_false] at h
                        refine tc_skip ?_
                        refine q_then_n ?_
                        refine tc_seq ?_
                        refine tc_seq ?_
                        obtain ⟨s3, hs3⟩ : ∃ s3, s3 = { s57 with off := false } := ⟨_, rfl⟩
                        rw [← hs3]
                        refine tc_have (fun _ _ h => wfR_ct (r := d30) (s := s3) (by repeat (first | with_reducible exact ct_here | apply ct_left)) h) fun hw3 => ?_
                        have hil := imgS_len hw3
                        have htop3 := hw3.top
                        obtain ⟨q0, q1, q2, q3, q4, hq⟩ := five_i (rdA_len s3)
                        obtain ⟨e0, he0⟩ : ∃ e0, e0 = (rdA s3).2 := ⟨_, rfl⟩
                        have hrd : rdA s3 = ([q0, q1, q2, q3, q4], e0) := by rw [← hq, he0]
                        obtain ⟨w6, hw6⟩ : ∃ w6, w6 = (rootA s3).1 := ⟨_, rfl⟩
                        obtain ⟨e6, he6⟩ : ∃ e6, e6 = (rootA s3).2 := ⟨_, rfl⟩
                        have hroot : rootA s3 = (w6, e6) := by rw [hw6, he6]
                        refine tc_reg ?_
                        refine tla ?_
                        refine tl_nil ?_
                        refine q_then_n ?_
                        refine tc_block ?_
                        refine tc_loop (fun kk ρ BB => ∃ (i : Nat), (i ≤ 4) ∧ kk = 4 - i ∧ ρ 15 = .int .i64 (i : Nat) ∧ ρ 8 = .pointer (some ⟨d25, 0, none⟩) ∧ ρ 10 = .pointer (some ⟨d30, 0, none⟩) ∧ ρ 13 = .pointer (some ⟨b13, 0, none⟩) ∧ ρ 14 = .pointer (some ⟨b14, 0, none⟩) ∧ BB = A * Dev d25 s3 * RDev d30 s3 * pt b13 (cl (ints [m0, m1, m2, m3, m4]) 23) * pt b14 (cl (ints [m0, m1, m2, m3, m4]) 23)) (m := 4 - (0)) ?_ ?_
                        · exact ⟨0, by omega, rfl, rfl, rfl, rfl, rfl, rfl, rfl⟩
                        · intro k ρ B hI
                          obtain ⟨i, hp0, hkk1, hE15, hE8, hE10, hE13, hE14, rfl⟩ := hI
                          refine tc_env (d := 15) hE15 ?_
                          refine tc_env (d := 8) hE8 ?_
                          refine tc_env (d := 10) hE10 ?_
                          refine tc_env (d := 13) hE13 ?_
                          refine tc_env (d := 14) hE14 ?_
                          clear hE15 hE8 hE10 hE13 hE14
                          refine tc_seq ?_
                          refine tc_seq ?_
                          refine tc_reg ?_
                          refine tlm ?_
                          refine tl_v rfl (o_lss rfl rfl) ?_
                          refine tl_nil ?_
                          refine q_then_n ?_
                          refine tc_cond rfl (fun h => ?_) (fun h => ?_)
                          · try simp only [lv1, lv2, lv3, lv4, lv5, lv6, Bool.not_true, Bool.not_false] at h
                            refine tc_skip ?_
                            refine q_then_n ?_
                            refine tc_seq ?_
                            refine tc_block ?_
                            refine tc_seq ?_
                            refine tc_reg ?_
                            refine tlm ?_
                            refine tlm ?_
                            refine tl_c rfl (o_call bd35 rfl (Contents_any (s := s3) (q := i))) ?_
                            rintro _ _ ⟨a100, c100, vs100, rfl, hc100, rfl⟩
                            refine tlm ?_
                            refine tlm ?_
                            refine tl_c rfl (o_call bd82 rfl (rContents_any (s := s3) (q := i))) ?_
                            rintro _ _ ⟨a103, c103, vs103, rfl, hc103, rfl⟩
                            have hq := ctS_rows hw3 i
                            refine tl_have (fun _ _ h => rwF_parts h) fun hf2 => ?_
                            refine tl_have (fun _ _ h => rwF_parts h.left.left) fun hf1 => ?_
                            refine tl_c rfl (o_call bd81 rfl (EqRows_c (ls := ctS i s3) (ms := ctS i s3) (vs := vs100) (ws := vs103) (h1 := hf1.left.left) (h2 := hf2) (hn := rfl) (hm := rfl) (hnl := by omega) (hml := by omega) (hl1 := fun l hl => by have := hq.2 l hl; omega) (hl2 := fun l hl => by have := hq.2 l hl; omega))) ?_
                            rintro _ _ ⟨rfl, rfl⟩
                            refine tl_env (d := 104) (v := .bool true) (congrArg Value.bool (decide_eq_true rfl)) ?_
                            refine tl_v rfl (o_not rfl) ?_
                            refine tl_nil ?_
                            refine q_then_n ?_
                            refine tc_cond rfl (fun h => ?_) (fun h => ?_)
                            · exfalso; simp at h
                            · try simp only [lv1, lv2, lv3, lv4, lv5, lv6, Bool.not_true, Bool.not_false] at h
                              refine tc_skip ?_
                              refine q_block_n (q_then_n ?_)
                              refine tc_pre (A' := A * Dev d25 s3 * RDev d30 s3 * pt b13 (cl (ints [m0, m1, m2, m3, m4]) 23) * pt b14 (cl (ints [m0, m1, m2, m3, m4]) 23)) (Dr.sat (by repeat (first | with_reducible exact dr_refl | apply dr_keep | apply dr_drop))) ?_
                              refine tc_reg ?_
                              refine tlm ?_
                              refine tl_v rfl (by first | exact o_addI rfl rfl (by omega) | exact o_add rfl rfl) ?_
                              refine tla ?_
                              refine tl_nil ?_
                              refine q_then_n ?_
                              exact ⟨_, by omega, i + 1, by omega, rfl, rfl, rfl, rfl, rfl, rfl, rfl⟩
                          · try simp only [lv1, lv2, lv3, lv4, lv5, lv6, Bool.not_true, Bool.not_false] at h
                            refine tc_exit ?_
                            refine q_then_e (q_then_e (q_block_x (q_then_n ?_)))
                            refine tc_seq ?_
                            refine tc_reg ?_
                            refine tlm ?_
                            refine tl_c rfl (o_call bd48 rfl (Read_5 (s := s3) (by repeat (first | with_reducible exact ct_here | apply ct_left)) hrd)) ?_
                            rintro _ _ ⟨rfl, rfl⟩
                            refine tlm ?_
                            refine tl_v rfl (o_extract rfl rfl) ?_
                            refine tl_v rfl (o_extract rfl rfl) ?_
                            refine tl_u rfl (o_stUN (l' := ints [q0, q1, q2, q3, q4]) rfl (by repeat (first | with_reducible exact upd_here | with_reducible exact upd_pt | apply upd_left)) sz23 rfl rfl rfl (by show 5 ≤ 5; decide) rfl) ?_
                            refine tla ?_
                            refine tl_nil ?_
                            refine q_then_n ?_
                            refine tc_seq ?_
                            refine tc_reg ?_
                            refine tlm ?_
                            refine tl_c rfl (o_call bd66 rfl (rRead_5 (s := s3) (by repeat (first | with_reducible exact ct_here | apply ct_left)) hrd)) ?_
                            rintro _ _ ⟨rfl, rfl⟩
                            refine tlm ?_
                            refine tl_v rfl (o_extract rfl rfl) ?_
                            refine tl_v rfl (o_extract rfl rfl) ?_
                            refine tl_u rfl (o_stUN (l' := ints [q0, q1, q2, q3, q4]) rfl (by repeat (first | with_reducible exact upd_here | with_reducible exact upd_pt | apply upd_left)) sz23 rfl rfl rfl (by show 5 ≤ 5; decide) rfl) ?_
                            refine tla ?_
                            refine tl_nil ?_
                            refine q_then_n ?_
                            refine tc_seq ?_
                            refine tc_reg ?_
                            refine tlm ?_
                            refine tl_c rfl (o_call bd67 rfl (Root_5 (s := s3) (by repeat (first | with_reducible exact ct_here | apply ct_left)) hroot)) ?_
                            rintro _ _ ⟨rfl, rfl⟩
                            refine tlm ?_
                            refine tl_v rfl (o_extract rfl rfl) ?_
                            refine tl_v rfl (o_extract rfl rfl) ?_
                            refine tla ?_
                            refine tla ?_
                            refine tl_nil ?_
                            refine q_then_n ?_
                            refine tc_seq ?_
                            refine tc_reg ?_
                            refine tlm ?_
                            refine tl_c rfl (o_call bd68 rfl (rRoot_5 (s := s3) (by repeat (first | with_reducible exact ct_here | apply ct_left)) hroot)) ?_
                            rintro _ _ ⟨rfl, rfl⟩
                            refine tlm ?_
                            refine tl_v rfl (o_extract rfl rfl) ?_
                            refine tl_v rfl (o_extract rfl rfl) ?_
                            refine tla ?_
                            refine tla ?_
                            refine tl_nil ?_
                            refine q_then_n ?_
                            refine tc_seq ?_
                            refine tc_reg ?_
                            refine tl_v rfl (o_loadN (vs := ints [q0, q1, q2, q3, q4]) a23 sz23 rfl (by repeat (first | with_reducible exact has_here | with_reducible exact has_pt | apply has_left)) (by show 5 ≤ 5; decide) rfl) ?_
                            refine tl_v rfl (o_loadN (vs := ints [q0, q1, q2, q3, q4]) a23 sz23 rfl (by repeat (first | with_reducible exact has_here | with_reducible exact has_pt | apply has_left)) (by show 5 ≤ 5; decide) rfl) ?_
                            refine tl_v rfl (o_eqst (k := 5) (l := [q0, q1, q2, q3, q4]) (m := [q0, q1, q2, q3, q4]) Try.underlying23 (by kernel_rfl) (by kernel_rfl) (by kernel_rfl) rfl rfl rfl rfl) ?_
                            refine tlm ?_
                            refine tl_bool (d := 129) rfl (fun h => ?_) (fun h => ?_)
                            · try simp only [lv1, lv2, lv3, lv4, lv5, lv6, Bool.not_true, Bool.not_false] at h
                              refine tlm ?_
                              refine tlm ?_
                              refine tl_v rfl (o_eqi rfl rfl) ?_
                              refine tl_v rfl (o_pick_t rfl (by conv => lhs; whnf)) ?_
                              refine tlm ?_
                              refine tl_bool (d := 134) rfl (fun h => ?_) (fun h => ?_)
                              · try simp only [lv1, lv2, lv3, lv4, lv5, lv6, Bool.not_true, Bool.not_false] at h
                                refine tlm ?_
                                refine tlm ?_
                                refine tl_v rfl (o_eqi rfl rfl) ?_
                                refine tl_v rfl (o_pick_t rfl (by conv => lhs; whnf)) ?_
                                refine tlm ?_
                                refine tl_bool (d := 139) rfl (fun h => ?_) (fun h => ?_)
                                · try simp only [lv1, lv2, lv3, lv4, lv5, lv6, Bool.not_true, Bool.not_false] at h
                                  refine tlm ?_
                                  refine tlm ?_
                                  refine tl_v rfl (o_eqi rfl rfl) ?_
                                  refine tl_v rfl (o_pick_t rfl (by conv => lhs; whnf)) ?_
                                  refine tlm ?_
                                  refine tl_bool (d := 144) rfl (fun h => ?_) (fun h => ?_)
                                  · try simp only [lv1, lv2, lv3, lv4, lv5, lv6, Bool.not_true, Bool.not_false] at h
                                    refine tlm ?_
                                    refine tl_c rfl (o_call bd33 rfl (Image_c (s := s3))) ?_
                                    rintro _ _ ⟨a146, c146, rfl, hc146, rfl⟩
                                    refine tlm ?_
                                    refine tl_c rfl (o_call bd70 rfl (rImage_c (s := s3))) ?_
                                    rintro _ _ ⟨a148, c148, rfl, hc148, rfl⟩
                                    refine tl_c rfl (o_call bd22 rfl (EqBytes_c (xs := imgS s3) (ys := imgS s3) (hx := hil) (hy := hil))) ?_
                                    rintro _ _ ⟨rfl, rfl⟩
                                    refine tl_env (d := 149) (v := .bool true) (congrArg Value.bool (decide_eq_true rfl)) ?_
                                    refine tl_v rfl (o_pick_t rfl (by conv => lhs; whnf)) ?_
                                    refine tlm ?_
                                    refine tl_bool (d := 151) rfl (fun h => ?_) (fun h => ?_)
                                    · try simp only [lv1, lv2, lv3, lv4, lv5, lv6, Bool.not_true, Bool.not_false] at h
                                      refine tl_c rfl (o_call bd24 rfl (works_c)) ?_
                                      rintro _ _ ⟨rfl, rfl⟩
                                      refine tl_v rfl (o_pick_t rfl (by conv => lhs; whnf)) ?_
                                      refine tla ?_
                                      refine tl_nil ?_
                                      refine q_then_n ?_
                                      refine tc_ret ?_
                                      exact ⟨.bool true, A, res1 rfl rfl, Dr.sat (by repeat (first | with_reducible exact dr_refl | apply dr_keep | apply dr_drop)), rfl, rfl⟩
                                    · exfalso; simp at h
                                  · exfalso; simp at h
                                · exfalso; simp at h
                              · exfalso; simp at h
                            · exfalso; simp at h
        · skip
          refine oh_x (i := 9) (listed' := #[true, true, true, true, true, false, false, true, true, true, false, false, false]) rfl rfl rfl (o_buildSliceK (k := 2) (l := [.int .i64 af, .slice ka kp.length kc]) Try.underlying74 sz72 z72 rfl rfl (by decide)) ?_
          rintro _ _ ⟨b51, rfl, rfl⟩
          refine ⟨by repeat (first | with_reducible exact dr_refl | apply dr_keep | apply dr_drop), ?_⟩
          refine th_one (i := 5) (by kernel_rfl) ?_
          refine oh_x (i := 5) (listed' := #[true, true, true, true, true, true, false, true, true, true, false, false, false]) rfl rfl rfl (o_buildSliceK (k := 2) (l := [.int .i64 af, .slice ka kp.length kc]) Try.underlying74 sz72 z72 rfl rfl (by decide)) ?_
          rintro _ _ ⟨b47, rfl, rfl⟩
          refine ⟨by repeat (first | with_reducible exact dr_refl | apply dr_keep | apply dr_drop), ?_⟩
          refine th_one (i := 6) (by kernel_rfl) ?_
          refine oh_c (i := 6) (listed' := #[true, true, true, true, true, true, true, true, true, true, false, false, false]) rfl rfl rfl (o_call bd44 rfl (Arm_c (s := fromS k xs) (kvs := [.slice ka kp.length kc]) (ars := [(af, kp)]) (hm := rfl) (hr := ⟨by repeat (first | assumption | exact rs_sl | exact rs_pt0 | exact rs_none | apply Rs.left), rfl, fun i h => by have h0 : i = 0 := (by simpa using h); subst h0; exact ⟨_, _, rfl, (by show kp.length ≤ _; exact hkc), (by repeat (first | exact hrk | apply Rs.left))⟩⟩) (hk := fun x hx => by simp only [List.mem_singleton] at hx; subst hx; exact ⟨by constructor <;> (show _ ≤ _) <;> omega, by show kp.length ≤ _; omega, hkb⟩))) ?_
          rintro _ _ ⟨e48, s48, hs48, rfl, rfl⟩
          refine ⟨by repeat (first | with_reducible exact dr_refl | apply dr_keep | apply dr_drop), ?_⟩
          refine th_one (i := 10) (by kernel_rfl) ?_
          refine oh_c (i := 10) (listed' := #[true, true, true, true, true, true, true, true, true, true, true, false, false]) rfl rfl rfl (o_call bd77 rfl (rArm_c (s := fromS k xs) (kvs := [.slice ka kp.length kc]) (ars := [(af, kp)]) (hm := rfl) (hr := ⟨by repeat (first | assumption | exact rs_sl | exact rs_pt0 | exact rs_none | apply Rs.left), rfl, fun i h => by have h0 : i = 0 := (by simpa using h); subst h0; exact ⟨_, _, rfl, (by show kp.length ≤ _; exact hkc), (by repeat (first | exact hrk | apply Rs.left))⟩⟩) (hk := fun x hx => by simp only [List.mem_singleton] at hx; subst hx; exact ⟨by constructor <;> (show _ ≤ _) <;> omega, by show kp.length ≤ _; omega, hkb⟩))) ?_
          rintro _ _ ⟨e52, s52, hs52, rfl, rfl⟩
          refine ⟨by repeat (first | with_reducible exact dr_refl | apply dr_keep | apply dr_drop), ?_⟩
          obtain ⟨rfl, rfl⟩ : e48 = e52 ∧ s48 = s52 := by rw [hs48] at hs52; simpa using hs52
          refine th_take (i := 11) (listed' := #[true, true, true, true, true, true, true, true, true, true, true, true, false]) rfl (by kernel_rfl) (by kernel_rfl) (by kernel_rfl) rfl rfl (o_nei rfl rfl) ?_
          refine th_take (i := 12) (listed' := #[true, true, true, true, true, true, true, true, true, true, true, true, true]) rfl (by kernel_rfl) (by kernel_rfl) (by kernel_rfl) rfl rfl (o_pick_t rfl (by conv => lhs; whnf)) ?_
          refine th_done (by kernel_rfl) ?_
          refine q_then_n ?_
          refine tc_cond rfl (fun h => ?_) (fun h => ?_)
          · exfalso; simp at h
          · try simp only [lv1, lv2, lv3, lv4, lv5, lv6, Bool.not_true, Bool.not_false] at h
            refine tc_skip ?_
            refine q_then_n ?_
            refine tc_seq ?_
            refine tc_pre (A' := A * Dev d25 s48 * RDev d30 s48) (Dr.sat (by repeat (first | with_reducible exact dr_refl | apply dr_keep | apply dr_drop))) ?_
            have hs48q : s48.off = false ∧ s48.ls = (fromS k xs).ls := by first | exact ha0 | exact armS_any (from_live k xs).1 (from_live k xs).2 hs48
            have hl48 : s48.ls.length = k := by rw [hs48q.2]; exact from_lslen k xs
            refine tc_reg ?_
            refine tlm ?_
            obtain ⟨m0, m1, m2, m3, m4, hfm⟩ := five_i (fmA_len n s48)
            have hroom : Room 256 s48 := fun l hl => by rw [hs48q.2] at hl; exact room_from (by decide) l hl
            refine tl_c rfl (o_call bd75 rfl (Format_ok (s := s48) (n := n) (hoff := hs48q.1) (hlen := by omega) (hn := by omega) (hroom := hroom))) ?_
            rintro _ _ ⟨e57, s57, hs57, rfl, rfl⟩
            rw [hfm]
            refine tlm ?_
            refine tl_v rfl (o_extract rfl rfl) ?_
            refine tl_v rfl (o_extract rfl rfl) ?_
            refine tl_x rfl (o_alloc z23 rfl) ?_
            rintro _ _ ⟨b13, rfl, rfl⟩
            refine tl_u rfl (o_stUN (l' := ints [m0, m1, m2, m3, m4]) rfl (by repeat (first | with_reducible exact upd_here | with_reducible exact upd_pt | apply upd_left)) sz23 rfl rfl rfl (by show 5 ≤ 5; decide) rfl) ?_
            refine tla ?_
            refine tl_nil ?_
            refine q_then_n ?_
            refine tc_seq ?_
            refine tc_reg ?_
            refine tlm ?_
            refine tl_c rfl (o_call bd78 rfl (rFormat_ok (s := s48) (n := n) (hoff := hs48q.1) (hlen := by omega) (hn := by omega) (hroom := hroom))) ?_
            rintro _ _ ⟨e62, s62, hs62, rfl, rfl⟩
            obtain ⟨rfl, rfl⟩ : e57 = e62 ∧ s57 = s62 := by rw [hs57] at hs62; simpa using hs62
            rw [hfm]
            refine tlm ?_
            refine tl_v rfl (o_extract rfl rfl) ?_
            refine tl_v rfl (o_extract rfl rfl) ?_
            refine tl_x rfl (o_alloc z23 rfl) ?_
            rintro _ _ ⟨b14, rfl, rfl⟩
            refine tl_u rfl (o_stUN (l' := ints [m0, m1, m2, m3, m4]) rfl (by repeat (first | with_reducible exact upd_here | with_reducible exact upd_pt | apply upd_left)) sz23 rfl rfl rfl (by show 5 ≤ 5; decide) rfl) ?_
            refine tla ?_
            refine tl_nil ?_
            refine q_then_n ?_
            refine tc_seq ?_
            refine tc_seq ?_
            refine tc_reg ?_
            refine tl_v rfl (o_loadN (vs := ints [m0, m1, m2, m3, m4]) a23 sz23 rfl (by repeat (first | with_reducible exact has_here | with_reducible exact has_pt | apply has_left)) (by show 5 ≤ 5; decide) rfl) ?_
            refine tl_v rfl (o_loadN (vs := ints [m0, m1, m2, m3, m4]) a23 sz23 rfl (by repeat (first | with_reducible exact has_here | with_reducible exact has_pt | apply has_left)) (by show 5 ≤ 5; decide) rfl) ?_
            refine tl_v rfl (o_nest (k := 5) (l := [m0, m1, m2, m3, m4]) (m := [m0, m1, m2, m3, m4]) Try.underlying23 (by kernel_rfl) (by kernel_rfl) (by kernel_rfl) rfl rfl rfl rfl) ?_
            refine tlm ?_
            refine tl_bool (d := 68) rfl (fun h => ?_) (fun h => ?_)
            · exfalso; simp at h
            · try simp only [lv1, lv2, lv3, lv4, lv5, lv6, Bool.not_true, Bool.not_false] at h
              refine tlm ?_
              refine tlm ?_
              refine tl_v rfl (o_nei rfl rfl) ?_
              refine tl_v rfl (o_pick_f rfl (by conv => lhs; whnf)) ?_
              refine tlm ?_
              refine tl_bool (d := 73) rfl (fun h => ?_) (fun h => ?_)
              · exfalso; simp at h
              · try simp only [lv1, lv2, lv3, lv4, lv5, lv6, Bool.not_true, Bool.not_false] at h
                refine tlm ?_
                refine tl_c rfl (o_call bd41 rfl (Ops_c (s := s57))) ?_
                rintro _ _ ⟨rfl, rfl⟩
                refine tlm ?_
                refine tl_c rfl (o_call bd69 rfl (rOps_c (s := s57))) ?_
                rintro _ _ ⟨rfl, rfl⟩
                refine tl_v rfl (o_nei rfl rfl) ?_
                refine tl_v rfl (o_pick_f rfl (by conv => lhs; whnf)) ?_
                refine tlm ?_
                refine tl_bool (d := 80) rfl (fun h => ?_) (fun h => ?_)
                · exfalso; simp at h
                · try simp only [lv1, lv2, lv3, lv4, lv5, lv6, Bool.not_true, Bool.not_false] at h
                  refine tlm ?_
                  refine tl_c rfl (o_call bd31 rfl (Off_c (s := s57))) ?_
                  rintro _ _ ⟨rfl, rfl⟩
                  refine tlm ?_
                  refine tl_c rfl (o_call bd79 rfl (rOff_c (s := s57))) ?_
                  rintro _ _ ⟨rfl, rfl⟩
                  refine tl_v rfl (o_neb Try.underlying4 rfl rfl) ?_
                  refine tl_v rfl (o_pick_f rfl (by conv => lhs; whnf)) ?_
                  refine tlm ?_
                  refine tl_bool (d := 87) rfl (fun h => ?_) (fun h => ?_)
                  · exfalso; simp at h
                  · try simp only [lv1, lv2, lv3, lv4, lv5, lv6, Bool.not_true, Bool.not_false] at h
                    refine tlm ?_
                    refine tl_c rfl (o_call bd32 rfl (Wake_c (s := s57))) ?_
                    rintro _ _ ⟨rfl, rfl⟩
                    refine tlm ?_
                    refine tl_c rfl (o_call bd80 rfl (rWake_c (s := s57))) ?_
                    rintro _ _ ⟨rfl, rfl⟩
                    refine tl_v rfl (o_nei rfl rfl) ?_
                    refine tl_v rfl (o_pick_f rfl (by conv => lhs; whnf)) ?_
                    refine tl_nil ?_
                    refine q_then_n ?_
                    refine tc_cond rfl (fun h => ?_) (fun h => ?_)
                    · exfalso; simp at h
                    · try simp only [lv1, lv2, lv3, lv4, lv5, lv6, Bool.not_true, Bool.not_false] at h
                      refine tc_skip ?_
                      refine q_then_n ?_
                      refine tc_seq ?_
                      refine tc_seq ?_
                      obtain ⟨s3, hs3⟩ : ∃ s3, s3 = { s57 with off := false } := ⟨_, rfl⟩
                      rw [← hs3]
                      refine tc_have (fun _ _ h => wfR_ct (r := d30) (s := s3) (by repeat (first | with_reducible exact ct_here | apply ct_left)) h) fun hw3 => ?_
                      have hil := imgS_len hw3
                      have htop3 := hw3.top
                      obtain ⟨q0, q1, q2, q3, q4, hq⟩ := five_i (rdA_len s3)
                      obtain ⟨e0, he0⟩ : ∃ e0, e0 = (rdA s3).2 := ⟨_, rfl⟩
                      have hrd : rdA s3 = ([q0, q1, q2, q3, q4], e0) := by rw [← hq, he0]
                      obtain ⟨w6, hw6⟩ : ∃ w6, w6 = (rootA s3).1 := ⟨_, rfl⟩
                      obtain ⟨e6, he6⟩ : ∃ e6, e6 = (rootA s3).2 := ⟨_, rfl⟩
                      have hroot : rootA s3 = (w6, e6) := by rw [hw6, he6]
                      refine tc_reg ?_
                      refine tla ?_
                      refine tl_nil ?_
                      refine q_then_n ?_
                      refine tc_block ?_
                      refine tc_loop (fun kk ρ BB => ∃ (i : Nat), (i ≤ 4) ∧ kk = 4 - i ∧ ρ 15 = .int .i64 (i : Nat) ∧ ρ 8 = .pointer (some ⟨d25, 0, none⟩) ∧ ρ 10 = .pointer (some ⟨d30, 0, none⟩) ∧ ρ 13 = .pointer (some ⟨b13, 0, none⟩) ∧ ρ 14 = .pointer (some ⟨b14, 0, none⟩) ∧ BB = A * Dev d25 s3 * RDev d30 s3 * pt b13 (cl (ints [m0, m1, m2, m3, m4]) 23) * pt b14 (cl (ints [m0, m1, m2, m3, m4]) 23)) (m := 4 - (0)) ?_ ?_
                      · exact ⟨0, by omega, rfl, rfl, rfl, rfl, rfl, rfl, rfl⟩
                      · intro k ρ B hI
                        obtain ⟨i, hp0, hkk1, hE15, hE8, hE10, hE13, hE14, rfl⟩ := hI
                        refine tc_env (d := 15) hE15 ?_
                        refine tc_env (d := 8) hE8 ?_
                        refine tc_env (d := 10) hE10 ?_
                        refine tc_env (d := 13) hE13 ?_
                        refine tc_env (d := 14) hE14 ?_
                        clear hE15 hE8 hE10 hE13 hE14
                        refine tc_seq ?_
                        refine tc_seq ?_
                        refine tc_reg ?_
                        refine tlm ?_
                        refine tl_v rfl (o_lss rfl rfl) ?_
                        refine tl_nil ?_
                        refine q_then_n ?_
                        refine tc_cond rfl (fun h => ?_) (fun h => ?_)
                        · try simp only [lv1, lv2, lv3, lv4, lv5, lv6, Bool.not_true, Bool.not_false] at h
                          refine tc_skip ?_
                          refine q_then_n ?_
                          refine tc_seq ?_
                          refine tc_block ?_
                          refine tc_seq ?_
                          refine tc_reg ?_
                          refine tlm ?_
                          refine tlm ?_
                          refine tl_c rfl (o_call bd35 rfl (Contents_any (s := s3) (q := i))) ?_
                          rintro _ _ ⟨a100, c100, vs100, rfl, hc100, rfl⟩
                          refine tlm ?_
                          refine tlm ?_
                          refine tl_c rfl (o_call bd82 rfl (rContents_any (s := s3) (q := i))) ?_
                          rintro _ _ ⟨a103, c103, vs103, rfl, hc103, rfl⟩
                          have hq := ctS_rows hw3 i
                          refine tl_have (fun _ _ h => rwF_parts h) fun hf2 => ?_
                          refine tl_have (fun _ _ h => rwF_parts h.left.left) fun hf1 => ?_
                          refine tl_c rfl (o_call bd81 rfl (EqRows_c (ls := ctS i s3) (ms := ctS i s3) (vs := vs100) (ws := vs103) (h1 := hf1.left.left) (h2 := hf2) (hn := rfl) (hm := rfl) (hnl := by omega) (hml := by omega) (hl1 := fun l hl => by have := hq.2 l hl; omega) (hl2 := fun l hl => by have := hq.2 l hl; omega))) ?_
                          rintro _ _ ⟨rfl, rfl⟩
                          refine tl_env (d := 104) (v := .bool true) (congrArg Value.bool (decide_eq_true rfl)) ?_
                          refine tl_v rfl (o_not rfl) ?_
                          refine tl_nil ?_
                          refine q_then_n ?_
                          refine tc_cond rfl (fun h => ?_) (fun h => ?_)
                          · exfalso; simp at h
                          · try simp only [lv1, lv2, lv3, lv4, lv5, lv6, Bool.not_true, Bool.not_false] at h
                            refine tc_skip ?_
                            refine q_block_n (q_then_n ?_)
                            refine tc_pre (A' := A * Dev d25 s3 * RDev d30 s3 * pt b13 (cl (ints [m0, m1, m2, m3, m4]) 23) * pt b14 (cl (ints [m0, m1, m2, m3, m4]) 23)) (Dr.sat (by repeat (first | with_reducible exact dr_refl | apply dr_keep | apply dr_drop))) ?_
                            refine tc_reg ?_
                            refine tlm ?_
                            refine tl_v rfl (by first | exact o_addI rfl rfl (by omega) | exact o_add rfl rfl) ?_
                            refine tla ?_
                            refine tl_nil ?_
                            refine q_then_n ?_
                            exact ⟨_, by omega, i + 1, by omega, rfl, rfl, rfl, rfl, rfl, rfl, rfl⟩
                        · try simp only [lv1, lv2, lv3, lv4, lv5, lv6, Bool.not_true, Bool.not_false] at h
                          refine tc_exit ?_
                          refine q_then_e (q_then_e (q_block_x (q_then_n ?_)))
                          refine tc_seq ?_
                          refine tc_reg ?_
                          refine tlm ?_
                          refine tl_c rfl (o_call bd48 rfl (Read_5 (s := s3) (by repeat (first | with_reducible exact ct_here | apply ct_left)) hrd)) ?_
                          rintro _ _ ⟨rfl, rfl⟩
                          refine tlm ?_
                          refine tl_v rfl (o_extract rfl rfl) ?_
                          refine tl_v rfl (o_extract rfl rfl) ?_
                          refine tl_u rfl (o_stUN (l' := ints [q0, q1, q2, q3, q4]) rfl (by repeat (first | with_reducible exact upd_here | with_reducible exact upd_pt | apply upd_left)) sz23 rfl rfl rfl (by show 5 ≤ 5; decide) rfl) ?_
                          refine tla ?_
                          refine tl_nil ?_
                          refine q_then_n ?_
                          refine tc_seq ?_
                          refine tc_reg ?_
                          refine tlm ?_
                          refine tl_c rfl (o_call bd66 rfl (rRead_5 (s := s3) (by repeat (first | with_reducible exact ct_here | apply ct_left)) hrd)) ?_
                          rintro _ _ ⟨rfl, rfl⟩
                          refine tlm ?_
                          refine tl_v rfl (o_extract rfl rfl) ?_
                          refine tl_v rfl (o_extract rfl rfl) ?_
                          refine tl_u rfl (o_stUN (l' := ints [q0, q1, q2, q3, q4]) rfl (by repeat (first | with_reducible exact upd_here | with_reducible exact upd_pt | apply upd_left)) sz23 rfl rfl rfl (by show 5 ≤ 5; decide) rfl) ?_
                          refine tla ?_
                          refine tl_nil ?_
                          refine q_then_n ?_
                          refine tc_seq ?_
                          refine tc_reg ?_
                          refine tlm ?_
                          refine tl_c rfl (o_call bd67 rfl (Root_5 (s := s3) (by repeat (first | with_reducible exact ct_here | apply ct_left)) hroot)) ?_
                          rintro _ _ ⟨rfl, rfl⟩
                          refine tlm ?_
                          refine tl_v rfl (o_extract rfl rfl) ?_
                          refine tl_v rfl (o_extract rfl rfl) ?_
                          refine tla ?_
                          refine tla ?_
                          refine tl_nil ?_
                          refine q_then_n ?_
                          refine tc_seq ?_
                          refine tc_reg ?_
                          refine tlm ?_
                          refine tl_c rfl (o_call bd68 rfl (rRoot_5 (s := s3) (by repeat (first | with_reducible exact ct_here | apply ct_left)) hroot)) ?_
                          rintro _ _ ⟨rfl, rfl⟩
                          refine tlm ?_
                          refine tl_v rfl (o_extract rfl rfl) ?_
                          refine tl_v rfl (o_extract rfl rfl) ?_
                          refine tla ?_
                          refine tla ?_
                          refine tl_nil ?_
                          refine q_then_n ?_
                          refine tc_seq ?_
                          refine tc_reg ?_
                          refine tl_v rfl (o_loadN (vs := ints [q0, q1, q2, q3, q4]) a23 sz23 rfl (by repeat (first | with_reducible exact has_here | with_reducible exact has_pt | apply has_left)) (by show 5 ≤ 5; decide) rfl) ?_
                          refine tl_v rfl (o_loadN (vs := ints [q0, q1, q2, q3, q4]) a23 sz23 rfl (by repeat (first | with_reducible exact has_here | with_reducible exact has_pt | apply has_left)) (by show 5 ≤ 5; decide) rfl) ?_
                          refine tl_v rfl (o_eqst (k := 5) (l := [q0, q1, q2, q3, q4]) (m := [q0, q1, q2, q3, q4]) Try.underlying23 (by kernel_rfl) (by kernel_rfl) (by kernel_rfl) rfl rfl rfl rfl) ?_
                          refine tlm ?_
                          refine tl_bool (d := 129) rfl (fun h => ?_) (fun h => ?_)
                          · try simp only [lv1, lv2, lv3, lv4, lv5, lv6, Bool.not_true, Bool.not_false] at h
                            refine tlm ?_
                            refine tlm ?_
                            refine tl_v rfl (o_eqi rfl rfl) ?_
                            refine tl_v rfl (o_pick_t rfl (by conv => lhs; whnf)) ?_
                            refine tlm ?_
                            refine tl_bool (d := 134) rfl (fun h => ?_) (fun h => ?_)
                            · try simp only [lv1, lv2, lv3, lv4, lv5, lv6, Bool.not_true, Bool.not_false] at h
                              refine tlm ?_
                              refine tlm ?_
                              refine tl_v rfl (o_eqi rfl rfl) ?_
                              refine tl_v rfl (o_pick_t rfl (by conv => lhs; whnf)) ?_
                              refine tlm ?_
                              refine tl_bool (d := 139) rfl (fun h => ?_) (fun h => ?_)
                              · try simp only [lv1, lv2, lv3, lv4, lv5, lv6, Bool.not_true, Bool.not_false] at h
                                refine tlm ?_
                                refine tlm ?_
                                refine tl_v rfl (o_eqi rfl rfl) ?_
                                refine tl_v rfl (o_pick_t rfl (by conv => lhs; whnf)) ?_
                                refine tlm ?_
                                refine tl_bool (d := 144) rfl (fun h => ?_) (fun h => ?_)
                                · try simp only [lv1, lv2, lv3, lv4, lv5, lv6, Bool.not_true, Bool.not_false] at h
                                  refine tlm ?_
                                  refine tl_c rfl (o_call bd33 rfl (Image_c (s := s3))) ?_
                                  rintro _ _ ⟨a146, c146, rfl, hc146, rfl⟩
                                  refine tlm ?_
                                  refine tl_c rfl (o_call bd70 rfl (rImage_c (s := s3))) ?_
                                  rintro _ _ ⟨a148, c148, rfl, hc148, rfl⟩
                                  refine tl_c rfl (o_call bd22 rfl (EqBytes_c (xs := imgS s3) (ys := imgS s3) (hx := hil) (hy := hil))) ?_
                                  rintro _ _ ⟨rfl, rfl⟩
                                  refine tl_env (d := 149) (v := .bool true) (congrArg Value.bool (decide_eq_true rfl)) ?_
                                  refine tl_v rfl (o_pick_t rfl (by conv => lhs; whnf)) ?_
                                  refine tlm ?_
                                  refine tl_bool (d := 151) rfl (fun h => ?_) (fun h => ?_)
                                  · try simp only [lv1, lv2, lv3, lv4, lv5, lv6, Bool.not_true, Bool.not_false] at h
                                    refine tl_c rfl (o_call bd24 rfl (works_c)) ?_
                                    rintro _ _ ⟨rfl, rfl⟩
                                    refine tl_v rfl (o_pick_t rfl (by conv => lhs; whnf)) ?_
                                    refine tla ?_
                                    refine tl_nil ?_
                                    refine q_then_n ?_
                                    refine tc_ret ?_
                                    exact ⟨.bool true, A, res1 rfl rfl, Dr.sat (by repeat (first | with_reducible exact dr_refl | apply dr_keep | apply dr_drop)), rfl, rfl⟩
                                  · exfalso; simp at h
                                · exfalso; simp at h
                              · exfalso; simp at h
                            · exfalso; simp at h
                          · exfalso; simp at h
      · obtain ⟨s48, hs48z⟩ : ∃ s, s = fromS k xs := ⟨_, rfl⟩
        rw [← hs48z]
        have ha0 : s48.off = false ∧ s48.ls = (fromS k xs).ls := by rw [hs48z]; exact ⟨(from_live k xs).1, rfl⟩
        refine th_skip (i := 3) (listed' := #[true, true, true, true, false, false, false, false, false, false, false, false, false]) rfl (by kernel_rfl) (by kernel_rfl) (by kernel_rfl) rfl rfl ?_
        refine th_skip (i := 4) (listed' := #[true, true, true, true, true, false, false, false, false, false, false, false, false]) rfl (by kernel_rfl) (by kernel_rfl) (by kernel_rfl) rfl rfl ?_
        refine th_skip (i := 5) (listed' := #[true, true, true, true, true, true, false, false, false, false, false, false, false]) rfl (by kernel_rfl) (by kernel_rfl) (by kernel_rfl) rfl rfl ?_
        refine th_skip (i := 6) (listed' := #[true, true, true, true, true, true, true, false, false, false, false, false, false]) rfl (by kernel_rfl) (by kernel_rfl) (by kernel_rfl) rfl rfl ?_
        refine th_skip (i := 7) (listed' := #[true, true, true, true, true, true, true, true, false, false, false, false, false]) rfl (by kernel_rfl) (by kernel_rfl) (by kernel_rfl) rfl rfl ?_
        refine th_skip (i := 8) (listed' := #[true, true, true, true, true, true, true, true, true, false, false, false, false]) rfl (by kernel_rfl) (by kernel_rfl) (by kernel_rfl) rfl rfl ?_
        refine th_skip (i := 9) (listed' := #[true, true, true, true, true, true, true, true, true, true, false, false, false]) rfl (by kernel_rfl) (by kernel_rfl) (by kernel_rfl) rfl rfl ?_
        refine th_skip (i := 10) (listed' := #[true, true, true, true, true, true, true, true, true, true, true, false, false]) rfl (by kernel_rfl) (by kernel_rfl) (by kernel_rfl) rfl rfl ?_
        refine th_skip (i := 11) (listed' := #[true, true, true, true, true, true, true, true, true, true, true, true, false]) rfl (by kernel_rfl) (by kernel_rfl) (by kernel_rfl) rfl rfl ?_
        refine th_take (i := 12) (listed' := #[true, true, true, true, true, true, true, true, true, true, true, true, true]) rfl (by kernel_rfl) (by kernel_rfl) (by kernel_rfl) rfl rfl (o_pick_f rfl (by conv => lhs; whnf)) ?_
        refine th_done (by kernel_rfl) ?_
        refine q_then_n ?_
        refine tc_cond_f rfl ?_
        refine tc_skip ?_
        refine q_then_n ?_
        refine tc_seq ?_
        refine tc_pre (A' := A * Dev d25 s48 * RDev d30 s48) (Dr.sat (by repeat (first | with_reducible exact dr_refl | apply dr_keep | apply dr_drop))) ?_
        have hs48q : s48.off = false ∧ s48.ls = (fromS k xs).ls := by first | exact ha0 | exact armS_any (from_live k xs).1 (from_live k xs).2 hs48
        have hl48 : s48.ls.length = k := by rw [hs48q.2]; exact from_lslen k xs
        refine tc_reg ?_
        refine tlm ?_
        obtain ⟨m0, m1, m2, m3, m4, hfm⟩ := five_i (fmA_len n s48)
        have hroom : Room 256 s48 := fun l hl => by rw [hs48q.2] at hl; exact room_from (by decide) l hl
        refine tl_c rfl (o_call bd75 rfl (Format_ok (s := s48) (n := n) (hoff := hs48q.1) (hlen := by omega) (hn := by omega) (hroom := hroom))) ?_
        rintro _ _ ⟨e57, s57, hs57, rfl, rfl⟩
        rw [hfm]
        refine tlm ?_
        refine tl_v rfl (o_extract rfl rfl) ?_
        refine tl_v rfl (o_extract rfl rfl) ?_
        refine tl_x rfl (o_alloc z23 rfl) ?_
        rintro _ _ ⟨b13, rfl, rfl⟩
        refine tl_u rfl (o_stUN (l' := ints [m0, m1, m2, m3, m4]) rfl (by repeat (first | with_reducible exact upd_here | with_reducible exact upd_pt | apply upd_left)) sz23 rfl rfl rfl (by show 5 ≤ 5; decide) rfl) ?_
        refine tla ?_
        refine tl_nil ?_
        refine q_then_n ?_
        refine tc_seq ?_
        refine tc_reg ?_
        refine tlm ?_
        refine tl_c rfl (o_call bd78 rfl (rFormat_ok (s := s48) (n := n) (hoff := hs48q.1) (hlen := by omega) (hn := by omega) (hroom := hroom))) ?_
        rintro _ _ ⟨e62, s62, hs62, rfl, rfl⟩
        obtain ⟨rfl, rfl⟩ : e57 = e62 ∧ s57 = s62 := by rw [hs57] at hs62; simpa using hs62
        rw [hfm]
        refine tlm ?_
        refine tl_v rfl (o_extract rfl rfl) ?_
        refine tl_v rfl (o_extract rfl rfl) ?_
        refine tl_x rfl (o_alloc z23 rfl) ?_
        rintro _ _ ⟨b14, rfl, rfl⟩
        refine tl_u rfl (o_stUN (l' := ints [m0, m1, m2, m3, m4]) rfl (by repeat (first | with_reducible exact upd_here | with_reducible exact upd_pt | apply upd_left)) sz23 rfl rfl rfl (by show 5 ≤ 5; decide) rfl) ?_
        refine tla ?_
        refine tl_nil ?_
        refine q_then_n ?_
        refine tc_seq ?_
        refine tc_seq ?_
        refine tc_reg ?_
        refine tl_v rfl (o_loadN (vs := ints [m0, m1, m2, m3, m4]) a23 sz23 rfl (by repeat (first | with_reducible exact has_here | with_reducible exact has_pt | apply has_left)) (by show 5 ≤ 5; decide) rfl) ?_
        refine tl_v rfl (o_loadN (vs := ints [m0, m1, m2, m3, m4]) a23 sz23 rfl (by repeat (first | with_reducible exact has_here | with_reducible exact has_pt | apply has_left)) (by show 5 ≤ 5; decide) rfl) ?_
        refine tl_v rfl (o_nest (k := 5) (l := [m0, m1, m2, m3, m4]) (m := [m0, m1, m2, m3, m4]) Try.underlying23 (by kernel_rfl) (by kernel_rfl) (by kernel_rfl) rfl rfl rfl rfl) ?_
        refine tlm ?_
        refine tl_bool (d := 68) rfl (fun h => ?_) (fun h => ?_)
        · exfalso; simp at h
        · try simp only [lv1, lv2, lv3, lv4, lv5, lv6, Bool.not_true, Bool.not_false] at h
          refine tlm ?_
          refine tlm ?_
          refine tl_v rfl (o_nei rfl rfl) ?_
          refine tl_v rfl (o_pick_f rfl (by conv => lhs; whnf)) ?_
          refine tlm ?_
          refine tl_bool (d := 73) rfl (fun h => ?_) (fun h => ?_)
          · exfalso; simp at h
          · try simp only [lv1, lv2, lv3, lv4, lv5, lv6, Bool.not_true, Bool.not_false] at h
            refine tlm ?_
            refine tl_c rfl (o_call bd41 rfl (Ops_c (s := s57))) ?_
            rintro _ _ ⟨rfl, rfl⟩
            refine tlm ?_
            refine tl_c rfl (o_call bd69 rfl (rOps_c (s := s57))) ?_
            rintro _ _ ⟨rfl, rfl⟩
            refine tl_v rfl (o_nei rfl rfl) ?_
            refine tl_v rfl (o_pick_f rfl (by conv => lhs; whnf)) ?_
            refine tlm ?_
            refine tl_bool (d := 80) rfl (fun h => ?_) (fun h => ?_)
            · exfalso; simp at h
            · try simp only [lv1, lv2, lv3, lv4, lv5, lv6, Bool.not_true, Bool.not_false] at h
              refine tlm ?_
              refine tl_c rfl (o_call bd31 rfl (Off_c (s := s57))) ?_
              rintro _ _ ⟨rfl, rfl⟩
              refine tlm ?_
              refine tl_c rfl (o_call bd79 rfl (rOff_c (s := s57))) ?_
              rintro _ _ ⟨rfl, rfl⟩
              refine tl_v rfl (o_neb Try.underlying4 rfl rfl) ?_
              refine tl_v rfl (o_pick_f rfl (by conv => lhs; whnf)) ?_
              refine tlm ?_
              refine tl_bool (d := 87) rfl (fun h => ?_) (fun h => ?_)
              · exfalso; simp at h
              · try simp only [lv1, lv2, lv3, lv4, lv5, lv6, Bool.not_true, Bool.not_false] at h
                refine tlm ?_
                refine tl_c rfl (o_call bd32 rfl (Wake_c (s := s57))) ?_
                rintro _ _ ⟨rfl, rfl⟩
                refine tlm ?_
                refine tl_c rfl (o_call bd80 rfl (rWake_c (s := s57))) ?_
                rintro _ _ ⟨rfl, rfl⟩
                refine tl_v rfl (o_nei rfl rfl) ?_
                refine tl_v rfl (o_pick_f rfl (by conv => lhs; whnf)) ?_
                refine tl_nil ?_
                refine q_then_n ?_
                refine tc_cond rfl (fun h => ?_) (fun h => ?_)
                · exfalso; simp at h
                · try simp only [lv1, lv2, lv3, lv4, lv5, lv6, Bool.not_true, Bool.not_false] at h
                  refine tc_skip ?_
                  refine q_then_n ?_
                  refine tc_seq ?_
                  refine tc_seq ?_
                  obtain ⟨s3, hs3⟩ : ∃ s3, s3 = { s57 with off := false } := ⟨_, rfl⟩
                  rw [← hs3]
                  refine tc_have (fun _ _ h => wfR_ct (r := d30) (s := s3) (by repeat (first | with_reducible exact ct_here | apply ct_left)) h) fun hw3 => ?_
                  have hil := imgS_len hw3
                  have htop3 := hw3.top
                  obtain ⟨q0, q1, q2, q3, q4, hq⟩ := five_i (rdA_len s3)
                  obtain ⟨e0, he0⟩ : ∃ e0, e0 = (rdA s3).2 := ⟨_, rfl⟩
                  have hrd : rdA s3 = ([q0, q1, q2, q3, q4], e0) := by rw [← hq, he0]
                  obtain ⟨w6, hw6⟩ : ∃ w6, w6 = (rootA s3).1 := ⟨_, rfl⟩
                  obtain ⟨e6, he6⟩ : ∃ e6, e6 = (rootA s3).2 := ⟨_, rfl⟩
                  have hroot : rootA s3 = (w6, e6) := by rw [hw6, he6]
                  refine tc_reg ?_
                  refine tla ?_
                  refine tl_nil ?_
                  refine q_then_n ?_
                  refine tc_block ?_
                  refine tc_loop (fun kk ρ BB => ∃ (i : Nat), (i ≤ 4) ∧ kk = 4 - i ∧ ρ 15 = .int .i64 (i : Nat) ∧ ρ 8 = .pointer (some ⟨d25, 0, none⟩) ∧ ρ 10 = .pointer (some ⟨d30, 0, none⟩) ∧ ρ 13 = .pointer (some ⟨b13, 0, none⟩) ∧ ρ 14 = .pointer (some ⟨b14, 0, none⟩) ∧ BB = A * Dev d25 s3 * RDev d30 s3 * pt b13 (cl (ints [m0, m1, m2, m3, m4]) 23) * pt b14 (cl (ints [m0, m1, m2, m3, m4]) 23)) (m := 4 - (0)) ?_ ?_
                  · exact ⟨0, by omega, rfl, rfl, rfl, rfl, rfl, rfl, rfl⟩
                  · intro k ρ B hI
                    obtain ⟨i, hp0, hkk1, hE15, hE8, hE10, hE13, hE14, rfl⟩ := hI
                    refine tc_env (d := 15) hE15 ?_
                    refine tc_env (d := 8) hE8 ?_
                    refine tc_env (d := 10) hE10 ?_
                    refine tc_env (d := 13) hE13 ?_
                    refine tc_env (d := 14) hE14 ?_
                    clear hE15 hE8 hE10 hE13 hE14
                    refine tc_seq ?_
                    refine tc_seq ?_
                    refine tc_reg ?_
                    refine tlm ?_
                    refine tl_v rfl (o_lss rfl rfl) ?_
                    refine tl_nil ?_
                    refine q_then_n ?_
                    refine tc_cond rfl (fun h => ?_) (fun h => ?_)
                    · try simp only [lv1, lv2, lv3, lv4, lv5, lv6, Bool.not_true, Bool.not_false] at h
                      refine tc_skip ?_
                      refine q_then_n ?_
                      refine tc_seq ?_
                      refine tc_block ?_
                      refine tc_seq ?_
                      refine tc_reg ?_
                      refine tlm ?_
                      refine tlm ?_
                      refine tl_c rfl (o_call bd35 rfl (Contents_any (s := s3) (q := i))) ?_
                      rintro _ _ ⟨a100, c100, vs100, rfl, hc100, rfl⟩
                      refine tlm ?_
                      refine tlm ?_
                      refine tl_c rfl (o_call bd82 rfl (rContents_any (s := s3) (q := i))) ?_
                      rintro _ _ ⟨a103, c103, vs103, rfl, hc103, rfl⟩
                      have hq := ctS_rows hw3 i
                      refine tl_have (fun _ _ h => rwF_parts h) fun hf2 => ?_
                      refine tl_have (fun _ _ h => rwF_parts h.left.left) fun hf1 => ?_
                      refine tl_c rfl (o_call bd81 rfl (EqRows_c (ls := ctS i s3) (ms := ctS i s3) (vs := vs100) (ws := vs103) (h1 := hf1.left.left) (h2 := hf2) (hn := rfl) (hm := rfl) (hnl := by omega) (hml := by omega) (hl1 := fun l hl => by have := hq.2 l hl; omega) (hl2 := fun l hl => by have := hq.2 l hl; omega))) ?_
                      rintro _ _ ⟨rfl, rfl⟩
                      refine tl_env (d := 104) (v := .bool true) (congrArg Value.bool (decide_eq_true rfl)) ?_
                      refine tl_v rfl (o_not rfl) ?_
                      refine tl_nil ?_
                      refine q_then_n ?_
                      refine tc_cond rfl (fun h => ?_) (fun h => ?_)
                      · exfalso; simp at h
                      · try simp only [lv1, lv2, lv3, lv4, lv5, lv6, Bool.not_true, Bool.not_false] at h
                        refine tc_skip ?_
                        refine q_block_n (q_then_n ?_)
                        refine tc_pre (A' := A * Dev d25 s3 * RDev d30 s3 * pt b13 (cl (ints [m0, m1, m2, m3, m4]) 23) * pt b14 (cl (ints [m0, m1, m2, m3, m4]) 23)) (Dr.sat (by repeat (first | with_reducible exact dr_refl | apply dr_keep | apply dr_drop))) ?_
                        refine tc_reg ?_
                        refine tlm ?_
                        refine tl_v rfl (by first | exact o_addI rfl rfl (by omega) | exact o_add rfl rfl) ?_
                        refine tla ?_
                        refine tl_nil ?_
                        refine q_then_n ?_
                        exact ⟨_, by omega, i + 1, by omega, rfl, rfl, rfl, rfl, rfl, rfl, rfl⟩
                    · try simp only [lv1, lv2, lv3, lv4, lv5, lv6, Bool.not_true, Bool.not_false] at h
                      refine tc_exit ?_
                      refine q_then_e (q_then_e (q_block_x (q_then_n ?_)))
                      refine tc_seq ?_
                      refine tc_reg ?_
                      refine tlm ?_
                      refine tl_c rfl (o_call bd48 rfl (Read_5 (s := s3) (by repeat (first | with_reducible exact ct_here | apply ct_left)) hrd)) ?_
                      rintro _ _ ⟨rfl, rfl⟩
                      refine tlm ?_
                      refine tl_v rfl (o_extract rfl rfl) ?_
                      refine tl_v rfl (o_extract rfl rfl) ?_
                      refine tl_u rfl (o_stUN (l' := ints [q0, q1, q2, q3, q4]) rfl (by repeat (first | with_reducible exact upd_here | with_reducible exact upd_pt | apply upd_left)) sz23 rfl rfl rfl (by show 5 ≤ 5; decide) rfl) ?_
                      refine tla ?_
                      refine tl_nil ?_
                      refine q_then_n ?_
                      refine tc_seq ?_
                      refine tc_reg ?_
                      refine tlm ?_
                      refine tl_c rfl (o_call bd66 rfl (rRead_5 (s := s3) (by repeat (first | with_reducible exact ct_here | apply ct_left)) hrd)) ?_
                      rintro _ _ ⟨rfl, rfl⟩
                      refine tlm ?_
                      refine tl_v rfl (o_extract rfl rfl) ?_
                      refine tl_v rfl (o_extract rfl rfl) ?_
                      refine tl_u rfl (o_stUN (l' := ints [q0, q1, q2, q3, q4]) rfl (by repeat (first | with_reducible exact upd_here | with_reducible exact upd_pt | apply upd_left)) sz23 rfl rfl rfl (by show 5 ≤ 5; decide) rfl) ?_
                      refine tla ?_
                      refine tl_nil ?_
                      refine q_then_n ?_
                      refine tc_seq ?_
                      refine tc_reg ?_
                      refine tlm ?_
                      refine tl_c rfl (o_call bd67 rfl (Root_5 (s := s3) (by repeat (first | with_reducible exact ct_here | apply ct_left)) hroot)) ?_
                      rintro _ _ ⟨rfl, rfl⟩
                      refine tlm ?_
                      refine tl_v rfl (o_extract rfl rfl) ?_
                      refine tl_v rfl (o_extract rfl rfl) ?_
                      refine tla ?_
                      refine tla ?_
                      refine tl_nil ?_
                      refine q_then_n ?_
                      refine tc_seq ?_
                      refine tc_reg ?_
                      refine tlm ?_
                      refine tl_c rfl (o_call bd68 rfl (rRoot_5 (s := s3) (by repeat (first | with_reducible exact ct_here | apply ct_left)) hroot)) ?_
                      rintro _ _ ⟨rfl, rfl⟩
                      refine tlm ?_
                      refine tl_v rfl (o_extract rfl rfl) ?_
                      refine tl_v rfl (o_extract rfl rfl) ?_
                      refine tla ?_
                      refine tla ?_
                      refine tl_nil ?_
                      refine q_then_n ?_
                      refine tc_seq ?_
                      refine tc_reg ?_
                      refine tl_v rfl (o_loadN (vs := ints [q0, q1, q2, q3, q4]) a23 sz23 rfl (by repeat (first | with_reducible exact has_here | with_reducible exact has_pt | apply has_left)) (by show 5 ≤ 5; decide) rfl) ?_
                      refine tl_v rfl (o_loadN (vs := ints [q0, q1, q2, q3, q4]) a23 sz23 rfl (by repeat (first | with_reducible exact has_here | with_reducible exact has_pt | apply has_left)) (by show 5 ≤ 5; decide) rfl) ?_
                      refine tl_v rfl (o_eqst (k := 5) (l := [q0, q1, q2, q3, q4]) (m := [q0, q1, q2, q3, q4]) Try.underlying23 (by kernel_rfl) (by kernel_rfl) (by kernel_rfl) rfl rfl rfl rfl) ?_
                      refine tlm ?_
                      refine tl_bool (d := 129) rfl (fun h => ?_) (fun h => ?_)
                      · try simp only [lv1, lv2, lv3, lv4, lv5, lv6, Bool.not_true, Bool.not_false] at h
                        refine tlm ?_
                        refine tlm ?_
                        refine tl_v rfl (o_eqi rfl rfl) ?_
                        refine tl_v rfl (o_pick_t rfl (by conv => lhs; whnf)) ?_
                        refine tlm ?_
                        refine tl_bool (d := 134) rfl (fun h => ?_) (fun h => ?_)
                        · try simp only [lv1, lv2, lv3, lv4, lv5, lv6, Bool.not_true, Bool.not_false] at h
                          refine tlm ?_
                          refine tlm ?_
                          refine tl_v rfl (o_eqi rfl rfl) ?_
                          refine tl_v rfl (o_pick_t rfl (by conv => lhs; whnf)) ?_
                          refine tlm ?_
                          refine tl_bool (d := 139) rfl (fun h => ?_) (fun h => ?_)
                          · try simp only [lv1, lv2, lv3, lv4, lv5, lv6, Bool.not_true, Bool.not_false] at h
                            refine tlm ?_
                            refine tlm ?_
                            refine tl_v rfl (o_eqi rfl rfl) ?_
                            refine tl_v rfl (o_pick_t rfl (by conv => lhs; whnf)) ?_
                            refine tlm ?_
                            refine tl_bool (d := 144) rfl (fun h => ?_) (fun h => ?_)
                            · try simp only [lv1, lv2, lv3, lv4, lv5, lv6, Bool.not_true, Bool.not_false] at h
                              refine tlm ?_
                              refine tl_c rfl (o_call bd33 rfl (Image_c (s := s3))) ?_
                              rintro _ _ ⟨a146, c146, rfl, hc146, rfl⟩
                              refine tlm ?_
                              refine tl_c rfl (o_call bd70 rfl (rImage_c (s := s3))) ?_
                              rintro _ _ ⟨a148, c148, rfl, hc148, rfl⟩
                              refine tl_c rfl (o_call bd22 rfl (EqBytes_c (xs := imgS s3) (ys := imgS s3) (hx := hil) (hy := hil))) ?_
                              rintro _ _ ⟨rfl, rfl⟩
                              refine tl_env (d := 149) (v := .bool true) (congrArg Value.bool (decide_eq_true rfl)) ?_
                              refine tl_v rfl (o_pick_t rfl (by conv => lhs; whnf)) ?_
                              refine tlm ?_
                              refine tl_bool (d := 151) rfl (fun h => ?_) (fun h => ?_)
                              · try simp only [lv1, lv2, lv3, lv4, lv5, lv6, Bool.not_true, Bool.not_false] at h
                                refine tl_c rfl (o_call bd24 rfl (works_c)) ?_
                                rintro _ _ ⟨rfl, rfl⟩
                                refine tl_v rfl (o_pick_t rfl (by conv => lhs; whnf)) ?_
                                refine tla ?_
                                refine tl_nil ?_
                                refine q_then_n ?_
                                refine tc_ret ?_
                                exact ⟨.bool true, A, res1 rfl rfl, Dr.sat (by repeat (first | with_reducible exact dr_refl | apply dr_keep | apply dr_drop)), rfl, rfl⟩
                              · exfalso; simp at h
                            · exfalso; simp at h
                          · exfalso; simp at h
                        · exfalso; simp at h
                      · exfalso; simp at h
set_option maxRecDepth 20000 in
theorem SuperFormats_L (F : SP) (cs : Array Value) (t : ImC) (h : PImg F cs.toList t) (v2 : Value) (af : Int) (haf : PInt .i64 [v2] af) (v3 : Value) (kp : List Int) (hkp : PInts F [v3] kp) :
    Fn Try.prog 17 #[.agg cs, v2, v3] F (fun r B => r = .bool true ∧ B = F) := by
  obtain ⟨e, h1, h2, h3, h4, h5, h6, h7⟩ := h
  obtain ⟨e2, hafw⟩ := haf
  have haf := i64_wf hafw
  obtain ⟨ka, kc, e3, k1, k2, k3, k4⟩ := hkp
  simp only [List.cons.injEq, and_true] at e2 e3
  subst e2 e3
  have ecs : cs = t.cells.toArray := by rw [← e]
  rw [ecs, img_cells h5.1]
  by_cases c : t.sz < 0 ∨ 4194368 < t.sz
  · exact SuperFormats_n1 F h1 h2 (by omega) h6 h4 k3 k2 (fun k hk => (k4 k hk).2) haf k1 c
  · obtain ⟨n, hn⟩ : ∃ n : Nat, t.sz = (n : Int) := ⟨t.sz.toNat, by omega⟩
    rw [hn]
    by_cases hf : fitsB (n : Nat) = true
    · have hf' : 64 ≤ (n : Int) ∧ (n : Int) ≤ 4194304 ∧ (n : Int) % 64 = 0 := by unfold fitsB at hf; simpa using hf
      by_cases hs : n < 36992
      · exact SuperFormats_s F h1 h2 (by omega) h6 h4 k3 k2 (fun k hk => (k4 k hk).2) haf k1 (k := n / 64) (by omega) (by omega) hs
      · exact SuperFormats_ok F h1 h2 (by omega) h6 h4 k3 k2 (fun k hk => (k4 k hk).2) haf k1 (k := n / 64) (by omega) (by omega) (by omega)
    · exact SuperFormats_n2 F h1 h2 (by omega) h6 h4 k3 k2 (fun k hk => (k4 k hk).2) haf k1 (by omega) (by simpa using hf)
end Go.Vl
