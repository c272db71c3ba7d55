/- What the row rests on, part 6: a calculus of assertions, walks of functions over it, and plain laws. Conditions: none. -/
import Derived.Deep.QuietTactic
import Derived.BigQuiet
import Derived.WalkKit
import Derived.Test.YtimckjnnjakcoaaGreatProg
import Derived.OrdersHeld
import Derived.Laws.BytesArg
import Derived.RangeFuncRecord
import Derived.TacticsIn
import Derived.Deep.Slices
import Derived.OpenShut
import Derived.ChangeArms
import Derived.SizedLaws
import Derived.ChangeSame
import Derived.Test.YtimckjnnjakcoaaGreatRows
import Derived.Test.YtimckjnnjakcoaaGreatMg5
set_option linter.unusedVariables false
set_option linter.unusedSimpArgs false
namespace Go.Vl
open Go Go.Proofs
theorem armS_any {af : Int} {kp : List Int} {s s2 : DevS} {e : Int} (ho : s.off = false) (ha : s.arms = []) (h : armS [(af, kp)] s = (e, s2)) : s2.off = false ∧ s2.ls = s.ls := by
  unfold armS at h
  rw [if_neg (by rw [ho]; decide)] at h
  split at h
  · simp only [Prod.mk.injEq] at h; rw [← h.2]; exact ⟨ho, rfl⟩
  · split at h
    · simp only [Prod.mk.injEq] at h; rw [← h.2]; exact ⟨ho, rfl⟩
    · simp only [Prod.mk.injEq] at h; rw [← h.2]; exact ⟨ho, rfl⟩
theorem ctS_rows {s : DevS} (hw : WfD s) (q : Nat) : (ctS q s).length ≤ 2199023255552 ∧ ∀ l ∈ ctS q s, l.length = 64 := by
  by_cases h : q < s.ls.length
  · rw [ctS_at h, List.length_map]
    have hl := hw.line _ (List.getElem_mem h)
    exact ⟨hl.small, fun l hm => by obtain ⟨x, hx, rfl⟩ := List.mem_map.1 hm; exact lb_len (hl.eight _ hx)⟩
  · have e : ctS q s = [] := ctS_out h
    rw [e]; exact ⟨by simp, fun l h => by simp at h⟩
/-- What Format answers of any device, and the device behind it. -/
def fmX (s : DevS) : (List Int × Int) × DevS := if 578 ≤ s.ls.length then (((fmA (s.ls.length * 64) s).1, (fmtF (fst4 (s.ls.length * 64)) s).1), (fmtF (fst4 (s.ls.length * 64)) s).2) else (([0, 0, 0, 0, 0], 80), s)
theorem Format_any {A R : SP} {C : SP → SP} {d : Nat} {s : DevS} (hc : Ct A (Dev d s) R C := by repeat (first | with_reducible exact ct_here | apply ct_left)) (hoff : s.off = false) (hroom : Room 256 s) :
    Fn Tryz.prog 15 #[.pointer (some ⟨d, 0, none⟩)] A (fun r B => ∃ m0 m1 m2 m3 m4 e s2, fmX s = (([m0, m1, m2, m3, m4], e), s2) ∧ r = .tuple #[.agg (ints [m0, m1, m2, m3, m4]).toArray, .int .i64 e] ∧ B = C (Dev d s2)) := by
  intro g w hs
  have hw := ct_wf2 hc hs
  have htop := hw.top
  unfold fmX
  by_cases h : 578 ≤ s.ls.length
  · rw [if_pos h]
    refine ((Format_ok hc hoff rfl (by omega) hroom).mono fun r B hq => ?_) g w hs
    obtain ⟨e, s2, h1, h2, h3⟩ := hq
    obtain ⟨m0, m1, m2, m3, m4, hm⟩ := five_i (fmA_len (s.ls.length * 64) s)
    exact ⟨m0, m1, m2, m3, m4, e, s2, by rw [h1, hm], by rw [h2, hm], h3⟩
  · rw [if_neg h]
    have hCA : A = C (Dev d s) := by obtain ⟨rfl, hC⟩ := hc; exact (hC _).symm
    exact ((Format_no hc hoff rfl (by omega)).mono fun r B hq => ⟨0, 0, 0, 0, 0, 80, s, rfl, hq.1, by rw [← hq.2]; exact hCA⟩) g w hs
theorem rFormat_any {A R : SP} {C : SP → SP} {d : Nat} {s : DevS} (hc : Ct A (RDev d s) R C := by repeat (first | with_reducible exact ct_here | apply ct_left)) (hoff : s.off = false) (hroom : Room 256 s) :
    Fn Tryz.prog 68 #[.pointer (some ⟨d, 0, none⟩)] A (fun r B => ∃ m0 m1 m2 m3 m4 e s2, fmX s = (([m0, m1, m2, m3, m4], e), s2) ∧ r = .tuple #[.agg (ints [m0, m1, m2, m3, m4]).toArray, .int .i64 e] ∧ B = C (RDev d s2)) := by
  intro g w hs
  have hw := wfR_ct hc hs
  have htop := hw.top
  unfold fmX
  by_cases h : 578 ≤ s.ls.length
  · rw [if_pos h]
    refine ((rFormat_ok hc hoff rfl (by omega) hroom).mono fun r B hq => ?_) g w hs
    obtain ⟨e, s2, h1, h2, h3⟩ := hq
    obtain ⟨m0, m1, m2, m3, m4, hm⟩ := five_i (fmA_len (s.ls.length * 64) s)
    exact ⟨m0, m1, m2, m3, m4, e, s2, by rw [h1, hm], by rw [h2, hm], h3⟩
  · rw [if_neg h]
    have hCA : A = C (RDev d s) := by obtain ⟨rfl, hC⟩ := hc; exact (hC _).symm
    exact ((rFormat_no hc hoff rfl (by omega)).mono fun r B hq => ⟨0, 0, 0, 0, 0, 80, s, rfl, hq.1, by rw [← hq.2]; exact hCA⟩) g w hs
attribute [local irreducible] crk crL crc Sl pt ro mbs sbB planT Dev RDev imgS lineT fromS Parts
set_option maxRecDepth 20000 in
set_option maxHeartbeats 4000000 in
theorem SuperFormats_n1 (A : SP) {sz tn af : Int} {fl hcp kc : Nat} {ha ka : Option Addr} {kp : List Int} {hd : List Nat} {rt : Bool} (hrh : Rs A ha (bys hd)) (hhb : ∀ x ∈ hd, x < 256) (hfl : fl < 256) (hht : -9223372036854775808 ≤ tn ∧ tn ≤ 9223372036854775807) (hhl : hd.length ≤ 140737488351232) (hrk : Rs A ka (ints kp)) (hkl : kp.length ≤ 17592186043904) (hkb : ∀ k ∈ kp, k ≤ 9223372036854775807) (haf : -9223372036854775808 ≤ af ∧ af ≤ 9223372036854775807) (hkc : kp.length ≤ kc) (hs : sz < 0 ∨ 4194368 < sz) :
    Fn Tryz.prog 12 #[.agg ([.int .i64 sz, .int .u8 (fl : Nat), .slice ha hd.length hcp, .bool rt, .int .i64 tn] : List Value).toArray, .int .i64 af, .slice ka kp.length kc] (A) (fun r B => r = .bool true ∧ B = A) := by
  refine fn_enterW (args := [.agg ([.int .i64 sz, .int .u8 (fl : Nat), .slice ha hd.length hcp, .bool rt, .int .i64 tn] : List Value).toArray, .int .i64 af, .slice ka kp.length kc]) Tryz.func12 rfl Tryz.ntmps12 (by simp) ?_; refine sr ?_; refine tl_x rfl (o_box rfl rfl) ?_; rintro _ _ ⟨b3, rfl, rfl⟩; refine tla ?_; refine nq ?_; refine sr ?_; refine tv (o_loadN (vs := [.int .i64 sz, .int .u8 (fl : Nat), .slice ha hd.length hcp, .bool rt, .int .i64 tn]) a45 sz45 rfl (by repeat (first | with_reducible exact has_here | with_reducible exact has_pt | apply has_left)) (by show 5 ≤ 5; decide) rfl) ?_; refine tl_c rfl (o_call bd66 rfl (ImBytes_no (hrh := (by repeat (first | exact hrh | apply Rs.left))) (hhb := hhb) (hfl := hfl) (hht := hht) (hs := hs))) ?_; rintro _ _ ⟨rfl, rfl⟩; refine tla ?_; refine nq ?_; refine sr ?_; refine tlm ?_; refine tl_c rfl (o_call bd35 rfl (CopyBytes_c (xs := []) (hr := rs_nil) (hm := rfl))) ?_; rintro _ _ ⟨a24, c24, rfl, hc24, rfl⟩; refine tl_c rfl (o_call bd67 rfl (FromNo_c (hno := by decide))) ?_; rintro _ _ ⟨rfl, rfl⟩; refine tlm ?_; refine tv (o_extract rfl rfl) ?_; refine tv (o_extract rfl rfl) ?_; refine tla ?_; refine tla ?_; refine nq ?_; refine sr ?_; refine tlm ?_; refine tl_c rfl (o_call bd22 rfl (rFromNo_c (hno := by decide))) ?_; rintro _ _ ⟨rfl, rfl⟩; refine tlm ?_
  refine tv (o_extract rfl rfl) ?_; refine tv (o_extract rfl rfl) ?_; refine tla ?_; refine tla ?_; refine nq ?_; refine tc_seq ?_; refine sr ?_; refine tlm ?_; refine tlm ?_; refine tv (o_nei rfl rfl) ?_; refine nq ?_; refine tc_cond rfl (fun h => ?_) (fun h => ?_)
  · exfalso; simp at h
  · try simp only [lv1, lv2, lv3, lv4, lv5, lv6, Bool.not_true, Bool.not_false] at h
    refine tc_skip ?_; refine q_then_n ?_; refine tc_seq ?_; refine sr ?_; refine tlm ?_; refine tv (o_nei rfl rfl) ?_; refine nq ?_; refine tc_cond rfl (fun h => ?_) (fun h => ?_)
    · try simp only [lv1, lv2, lv3, lv4, lv5, lv6, Bool.not_true, Bool.not_false] at h
      refine sr ?_; refine tl_c rfl (o_call bd19 rfl (works_c)) ?_; rintro _ _ ⟨rfl, rfl⟩; refine tla ?_; refine nq ?_; refine tc_ret ?_; refine q_then_r ?_; exact ⟨.bool true, A, res1 rfl rfl, Dr.sat (by repeat (first | with_reducible exact dr_refl | apply dr_keep | apply dr_drop)), rfl, rfl⟩
    · exfalso; simp at h
set_option maxRecDepth 20000 in
set_option maxHeartbeats 4000000 in
theorem SuperFormats_n2 (A : SP) {n : Nat} {tn af : Int} {fl hcp kc : Nat} {ha ka : Option Addr} {kp : List Int} {hd : List Nat} {rt : Bool} (hrh : Rs A ha (bys hd)) (hhb : ∀ x ∈ hd, x < 256) (hfl : fl < 256) (hht : -9223372036854775808 ≤ tn ∧ tn ≤ 9223372036854775807) (hhl : hd.length ≤ 140737488351232) (hrk : Rs A ka (ints kp)) (hkl : kp.length ≤ 17592186043904) (hkb : ∀ k ∈ kp, k ≤ 9223372036854775807) (haf : -9223372036854775808 ≤ af ∧ af ≤ 9223372036854775807) (hkc : kp.length ≤ kc) (hn : n ≤ 4194368) (hno : fitsB (n : Nat) = false) :
    Fn Tryz.prog 12 #[.agg ([.int .i64 (n : Int), .int .u8 (fl : Nat), .slice ha hd.length hcp, .bool rt, .int .i64 tn] : List Value).toArray, .int .i64 af, .slice ka kp.length kc] (A) (fun r B => r = .bool true ∧ B = A) := by
  refine fn_enterW (args := [.agg ([.int .i64 (n : Int), .int .u8 (fl : Nat), .slice ha hd.length hcp, .bool rt, .int .i64 tn] : List Value).toArray, .int .i64 af, .slice ka kp.length kc]) Tryz.func12 rfl Tryz.ntmps12 (by simp) ?_; refine sr ?_; refine tl_x rfl (o_box rfl rfl) ?_; rintro _ _ ⟨b3, rfl, rfl⟩; refine tla ?_; refine nq ?_; refine sr ?_; refine tv (o_loadN (vs := [.int .i64 (n : Int), .int .u8 (fl : Nat), .slice ha hd.length hcp, .bool rt, .int .i64 tn]) a45 sz45 rfl (by repeat (first | with_reducible exact has_here | with_reducible exact has_pt | apply has_left)) (by show 5 ≤ 5; decide) rfl) ?_; refine tl_c rfl (o_call bd66 rfl (ImBytes_ok (hrh := (by repeat (first | exact hrh | apply Rs.left))) (hhb := hhb) (hfl := hfl) (hht := hht) (hn := by omega) (hhl := hhl))) ?_; rintro _ _ ⟨a21, c21, xs, rfl, hc21, hxl, hxb, rfl⟩; refine tla ?_; refine nq ?_; refine sr ?_; refine tlm ?_; refine tl_c rfl (o_call bd35 rfl (CopyBytes_c (xs := xs))) ?_; rintro _ _ ⟨u24, c24, rfl, hc24, rfl⟩; refine tl_c rfl (o_call bd67 rfl (FromNo_c (m := n) (hno := hno))) ?_; rintro _ _ ⟨rfl, rfl⟩; refine tlm ?_; refine tv (o_extract rfl rfl) ?_; refine tv (o_extract rfl rfl) ?_; refine tla ?_; refine tla ?_; refine nq ?_; refine sr ?_; refine tlm ?_; refine tl_c rfl (o_call bd22 rfl (rFromNo_c (m := n) (hno := hno))) ?_
  rintro _ _ ⟨rfl, rfl⟩; refine tlm ?_; refine tv (o_extract rfl rfl) ?_; refine tv (o_extract rfl rfl) ?_; refine tla ?_; refine tla ?_; refine nq ?_; refine tc_seq ?_; refine sr ?_; refine tlm ?_; refine tlm ?_; refine tv (o_nei rfl rfl) ?_; refine nq ?_; refine tc_cond rfl (fun h => ?_) (fun h => ?_)
  · exfalso; simp at h
  · try simp only [lv1, lv2, lv3, lv4, lv5, lv6, Bool.not_true, Bool.not_false] at h
    refine tc_skip ?_; refine q_then_n ?_; refine tc_seq ?_; refine sr ?_; refine tlm ?_; refine tv (o_nei rfl rfl) ?_; refine nq ?_; refine tc_cond rfl (fun h => ?_) (fun h => ?_)
    · try simp only [lv1, lv2, lv3, lv4, lv5, lv6, Bool.not_true, Bool.not_false] at h
      refine sr ?_; refine tl_c rfl (o_call bd19 rfl (works_c)) ?_; rintro _ _ ⟨rfl, rfl⟩; refine tla ?_; refine nq ?_; refine tc_ret ?_; refine q_then_r ?_; exact ⟨.bool true, A, res1 rfl rfl, Dr.sat (by repeat (first | with_reducible exact dr_refl | apply dr_keep | apply dr_drop)), rfl, rfl⟩
    · exfalso; simp at h
set_option maxRecDepth 20000 in
set_option maxHeartbeats 4000000 in
theorem SuperFormats_ok (A : SP) {n : Nat} {tn af : Int} {fl hcp kc : Nat} {ha ka : Option Addr} {kp : List Int} {hd : List Nat} {rt : Bool} (hrh : Rs A ha (bys hd)) (hhb : ∀ x ∈ hd, x < 256) (hfl : fl < 256) (hht : -9223372036854775808 ≤ tn ∧ tn ≤ 9223372036854775807) (hhl : hd.length ≤ 140737488351232) (hrk : Rs A ka (ints kp)) (hkl : kp.length ≤ 17592186043904) (hkb : ∀ k ∈ kp, k ≤ 9223372036854775807) (haf : -9223372036854775808 ≤ af ∧ af ≤ 9223372036854775807) (hkc : kp.length ≤ kc) {k : Nat} (hk : n = k * 64) (hk0 : 0 < k) (hn2 : n ≤ 4194304) :
    Fn Tryz.prog 12 #[.agg ([.int .i64 (n : Int), .int .u8 (fl : Nat), .slice ha hd.length hcp, .bool rt, .int .i64 tn] : List Value).toArray, .int .i64 af, .slice ka kp.length kc] (A) (fun r B => r = .bool true ∧ B = A) := by
  refine fn_enterW (args := [.agg ([.int .i64 (n : Int), .int .u8 (fl : Nat), .slice ha hd.length hcp, .bool rt, .int .i64 tn] : List Value).toArray, .int .i64 af, .slice ka kp.length kc]) Tryz.func12 rfl Tryz.ntmps12 (by simp) ?_; refine sr ?_; refine tl_x rfl (o_box rfl rfl) ?_; rintro _ _ ⟨b3, rfl, rfl⟩; refine tla ?_; refine nq ?_; refine sr ?_; refine tv (o_loadN (vs := [.int .i64 (n : Int), .int .u8 (fl : Nat), .slice ha hd.length hcp, .bool rt, .int .i64 tn]) a45 sz45 rfl (by repeat (first | with_reducible exact has_here | with_reducible exact has_pt | apply has_left)) (by show 5 ≤ 5; decide) rfl) ?_; refine tl_c rfl (o_call bd66 rfl (ImBytes_ok (hrh := (by repeat (first | exact hrh | apply Rs.left))) (hhb := hhb) (hfl := hfl) (hht := hht) (hn := by omega) (hhl := hhl))) ?_; rintro _ _ ⟨a21, c21, xs, rfl, hc21, hxl, hxb, rfl⟩; refine tla ?_; refine nq ?_; refine sr ?_; refine tlm ?_; refine tl_c rfl (o_call bd35 rfl (CopyBytes_c (xs := xs))) ?_; rintro _ _ ⟨u24, c24, rfl, hc24, rfl⟩; refine tl_c rfl (o_call bd67 rfl (From_c (n := k) (xs := xs))) ?_; rintro _ _ ⟨d25, rfl, rfl⟩; refine tlm ?_; refine tv (o_extract rfl rfl) ?_; refine tv (o_extract rfl rfl) ?_; refine tla ?_; refine tla ?_; refine nq ?_; refine sr ?_; refine tlm ?_; refine tl_c rfl (o_call bd22 rfl (rFrom_c (n := k) (xs := xs))) ?_
  rintro _ _ ⟨d30, rfl, rfl⟩; refine tlm ?_; refine tv (o_extract rfl rfl) ?_; refine tv (o_extract rfl rfl) ?_; refine tla ?_; refine tla ?_; refine nq ?_; refine tc_seq ?_; refine sr ?_; refine tlm ?_; refine tlm ?_; refine tv (o_nei rfl rfl) ?_; refine nq ?_; refine tc_cond rfl (fun h => ?_) (fun h => ?_)
  · exfalso; simp at h
  · try simp only [lv1, lv2, lv3, lv4, lv5, lv6, Bool.not_true, Bool.not_false] at h
    refine tc_skip ?_; refine q_then_n ?_; refine tc_seq ?_; refine sr ?_; refine tlm ?_; refine tv (o_nei rfl rfl) ?_; refine nq ?_; refine tc_cond rfl (fun h => ?_) (fun h => ?_)
    · exfalso; simp at h
    · try simp only [lv1, lv2, lv3, lv4, lv5, lv6, Bool.not_true, Bool.not_false] at h
      refine tc_skip ?_; refine q_then_n ?_; refine sr ?_; refine tlm ?_; refine tlm ?_; refine tv (o_bS (l := [.int .i64 af, .slice ka kp.length kc]) (pv_cons (by conv => lhs; whnf) (pv_cons (by conv => lhs; whnf) pv_nil)) Tryz.underlying79 z79 (pl79 Tryz.underlying79) rfl) ?_; refine tl_x rfl (o_alloc z79 rfl) ?_; rintro _ _ ⟨b12, rfl, rfl⟩; refine tl_u rfl (o_stUN (l' := [.int .i64 af, .slice ka kp.length kc]) rfl (by repeat (first | with_reducible exact upd_here | with_reducible exact upd_pt | apply upd_left)) sz79 rfl rfl rfl (by show 2 ≤ 2; decide) rfl) ?_; refine nq ?_; refine tc_seq ?_; refine tc_cut (fun ρ BB => ∃ (s48 : DevS), (s48.off = false ∧ s48.ls = (fromS k xs).ls) ∧ ρ 8 = .pointer (some ⟨d25, 0, none⟩) ∧ ρ 10 = .pointer (some ⟨d30, 0, none⟩) ∧ Dr BB (A * Dev d25 s48 * RDev d30 s48)) ?_ ?_
      · skip
        refine tc_seq ?_; refine tc_pre (A' := A * Dev d25 (fromS k xs) * RDev d30 (fromS k xs) * pt b12 (cl [.int .i64 af, .slice ka kp.length kc] 79)) (Dr.sat (by repeat (first | with_reducible exact dr_refl | apply dr_keep | apply dr_drop))) ?_; refine tc_regh (S := A * pt b12 (cl [.int .i64 af, .slice ka kp.length kc] 79)) mo (by repeat (first | with_reducible exact dr_refl | apply dr_keep | apply dr_drop)) ?_
        show TH _ _ _ _ _ 13 #[ff,ff,ff,ff,ff,ff,ff,ff,ff,ff,ff,ff,ff] _ _
        refine th_take (i := 0) (listed' := #[tt,ff,ff,ff,ff,ff,ff,ff,ff,ff,ff,ff,ff]) rfl (by kernel_rfl) (by kernel_rfl) (by kernel_rfl) rfl rfl (o_move (by conv => lhs; whnf)) ?_; refine th_take (i := 1) (listed' := #[tt,tt,ff,ff,ff,ff,ff,ff,ff,ff,ff,ff,ff]) rfl (by kernel_rfl) (by kernel_rfl) (by kernel_rfl) rfl rfl (o_gtr rfl rfl) ?_; refine th_take (i := 2) (listed' := #[tt,tt,tt,ff,ff,ff,ff,ff,ff,ff,ff,ff,ff]) rfl (by kernel_rfl) (by kernel_rfl) (by kernel_rfl) rfl rfl (o_move (by conv => lhs; whnf)) ?_; refine th_bool (d := 44) rfl (fun h => ?_) (fun h => ?_)
        · try simp only [lv1, lv2, lv3, lv4, lv5, lv6, Bool.not_true, Bool.not_false] at h
          refine th_take (i := 3) (listed' := #[tt,tt,tt,tt,ff,ff,ff,ff,ff,ff,ff,ff,ff]) rfl (by kernel_rfl) (by kernel_rfl) (by kernel_rfl) rfl rfl (o_move (by conv => lhs; whnf)) ?_; refine th_take (i := 4) (listed' := #[tt,tt,tt,tt,tt,ff,ff,ff,ff,ff,ff,ff,ff]) rfl (by kernel_rfl) (by kernel_rfl) (by kernel_rfl) rfl rfl (o_loadN (vs := [.int .i64 af, .slice ka kp.length kc]) a79 sz79 rfl (by repeat (first | with_reducible exact has_here | with_reducible exact has_pt | apply has_left)) (by show 2 ≤ 2; decide) rfl) ?_; refine th_take (i := 7) (listed' := #[tt,tt,tt,tt,tt,ff,ff,tt,ff,ff,ff,ff,ff]) rfl (by kernel_rfl) (by kernel_rfl) (by kernel_rfl) rfl rfl (o_move (by conv => lhs; whnf)) ?_; refine th_take (i := 8) (listed' := #[tt,tt,tt,tt,tt,ff,ff,tt,tt,ff,ff,ff,ff]) rfl (by kernel_rfl) (by kernel_rfl) (by kernel_rfl) rfl rfl (o_loadN (vs := [.int .i64 af, .slice ka kp.length kc]) a79 sz79 rfl (by repeat (first | with_reducible exact has_here | with_reducible exact has_pt | apply has_left)) (by show 2 ≤ 2; decide) rfl) ?_; refine th_two (i := 5) (j := 9) (by kernel_rfl) ?_ ?_
          · skip
            refine oh_x (i := 5) (listed' := #[tt,tt,tt,tt,tt,tt,ff,tt,tt,ff,ff,ff,ff]) rfl rfl rfl (o_buildSliceK (k := 2) (l := [.int .i64 af, .slice ka kp.length kc]) Tryz.underlying48 sz79 z79 rfl rfl (by decide)) ?_; rintro _ _ ⟨b47, rfl, rfl⟩; refine ⟨by repeat (first | with_reducible exact dr_refl | apply dr_keep | apply dr_drop), ?_⟩; refine th_two (i := 6) (j := 9) (by kernel_rfl) ?_ ?_
            · skip
              refine oh_c (i := 6) (listed' := #[tt,tt,tt,tt,tt,tt,tt,tt,tt,ff,ff,ff,ff]) rfl rfl rfl (o_call bd41 rfl (Arm_c (s := fromS k xs) (kvs := [.slice ka kp.length kc]) (ars := [(af, kp)]) (hm := rfl) (hr := ⟨by repeat (first | assumption | exact rs_sl | exact rs_pt0 | exact rs_none | apply Rs.left), rfl, fun i h => by have h0 : i = 0 := (by simpa using h); subst h0; exact ⟨_, _, rfl, (by show kp.length ≤ _; exact hkc), (by repeat (first | exact hrk | apply Rs.left))⟩⟩) (hk := fun x hx => by simp only [List.mem_singleton] at hx; subst hx; exact ⟨by constructor <;> (show _ ≤ _) <;> omega, by show kp.length ≤ _; omega, hkb⟩))) ?_; rintro _ _ ⟨e48, s48, hs48, rfl, rfl⟩; refine ⟨by repeat (first | with_reducible exact dr_refl | apply dr_keep | apply dr_drop), ?_⟩; refine th_one (i := 9) (by kernel_rfl) ?_; refine oh_x (i := 9) (listed' := #[tt,tt,tt,tt,tt,tt,tt,tt,tt,tt,ff,ff,ff]) rfl rfl rfl (o_buildSliceK (k := 2) (l := [.int .i64 af, .slice ka kp.length kc]) Tryz.underlying48 sz79 z79 rfl rfl (by decide)) ?_; rintro _ _ ⟨b51, rfl, rfl⟩; refine ⟨by repeat (first | with_reducible exact dr_refl | apply dr_keep | apply dr_drop), ?_⟩; refine th_one (i := 10) (by kernel_rfl) ?_; refine oh_c (i := 10) (listed' := #[tt,tt,tt,tt,tt,tt,tt,tt,tt,tt,tt,ff,ff]) rfl rfl rfl (o_call bd42 rfl (rArm_c (s := fromS k xs) (kvs := [.slice ka kp.length kc]) (ars := [(af, kp)]) (hm := rfl) (hr := ⟨by repeat (first | assumption | exact rs_sl | exact rs_pt0 | exact rs_none | apply Rs.left), rfl, fun i h => by have h0 : i = 0 := (by simpa using h); subst h0; exact ⟨_, _, rfl, (by show kp.length ≤ _; exact hkc), (by repeat (first | exact hrk | apply Rs.left))⟩⟩) (hk := fun x hx => by simp only [List.mem_singleton] at hx; subst hx; exact ⟨by constructor <;> (show _ ≤ _) <;> omega, by show kp.length ≤ _; omega, hkb⟩))) ?_
              rintro _ _ ⟨e52, s52, hs52, rfl, rfl⟩; refine ⟨by repeat (first | with_reducible exact dr_refl | apply dr_keep | apply dr_drop), ?_⟩
              obtain ⟨rfl, rfl⟩ : e48 = e52 ∧ s48 = s52 := by rw [hs48] at hs52; simpa using hs52
              refine th_take (i := 11) (listed' := #[tt,tt,tt,tt,tt,tt,tt,tt,tt,tt,tt,tt,ff]) rfl (by kernel_rfl) (by kernel_rfl) (by kernel_rfl) rfl rfl (o_nei rfl rfl) ?_; refine th_take (i := 12) (listed' := #[tt,tt,tt,tt,tt,tt,tt,tt,tt,tt,tt,tt,tt]) rfl (by kernel_rfl) (by kernel_rfl) (by kernel_rfl) rfl rfl (o_pick_t rfl (by conv => lhs; whnf)) ?_; refine th_done (by kernel_rfl) ?_; refine q_then_n ?_; refine tc_cond rfl (fun h => ?_) (fun h => ?_)
              · exfalso; simp at h
              · try simp only [lv1, lv2, lv3, lv4, lv5, lv6, Bool.not_true, Bool.not_false] at h
                refine tc_skip ?_; exact ⟨s48, (by first | exact ha0 | exact ⟨ha0.1, rfl⟩ | exact armS_any (from_live k xs).1 (from_live k xs).2 hs48), rfl, rfl, (by repeat (first | with_reducible exact dr_refl | apply dr_keep | apply dr_drop))⟩
            · skip
              refine oh_x (i := 9) (listed' := #[tt,tt,tt,tt,tt,tt,ff,tt,tt,tt,ff,ff,ff]) rfl rfl rfl (o_buildSliceK (k := 2) (l := [.int .i64 af, .slice ka kp.length kc]) Tryz.underlying48 sz79 z79 rfl rfl (by decide)) ?_; rintro _ _ ⟨b51, rfl, rfl⟩; refine ⟨by repeat (first | with_reducible exact dr_refl | apply dr_keep | apply dr_drop), ?_⟩; refine th_one (i := 6) (by kernel_rfl) ?_; refine oh_c (i := 6) (listed' := #[tt,tt,tt,tt,tt,tt,tt,tt,tt,tt,ff,ff,ff]) rfl rfl rfl (o_call bd41 rfl (Arm_c (s := fromS k xs) (kvs := [.slice ka kp.length kc]) (ars := [(af, kp)]) (hm := rfl) (hr := ⟨by repeat (first | assumption | exact rs_sl | exact rs_pt0 | exact rs_none | apply Rs.left), rfl, fun i h => by have h0 : i = 0 := (by simpa using h); subst h0; exact ⟨_, _, rfl, (by show kp.length ≤ _; exact hkc), (by repeat (first | exact hrk | apply Rs.left))⟩⟩) (hk := fun x hx => by simp only [List.mem_singleton] at hx; subst hx; exact ⟨by constructor <;> (show _ ≤ _) <;> omega, by show kp.length ≤ _; omega, hkb⟩))) ?_; rintro _ _ ⟨e48, s48, hs48, rfl, rfl⟩; refine ⟨by repeat (first | with_reducible exact dr_refl | apply dr_keep | apply dr_drop), ?_⟩; refine th_one (i := 10) (by kernel_rfl) ?_; refine oh_c (i := 10) (listed' := #[tt,tt,tt,tt,tt,tt,tt,tt,tt,tt,tt,ff,ff]) rfl rfl rfl (o_call bd42 rfl (rArm_c (s := fromS k xs) (kvs := [.slice ka kp.length kc]) (ars := [(af, kp)]) (hm := rfl) (hr := ⟨by repeat (first | assumption | exact rs_sl | exact rs_pt0 | exact rs_none | apply Rs.left), rfl, fun i h => by have h0 : i = 0 := (by simpa using h); subst h0; exact ⟨_, _, rfl, (by show kp.length ≤ _; exact hkc), (by repeat (first | exact hrk | apply Rs.left))⟩⟩) (hk := fun x hx => by simp only [List.mem_singleton] at hx; subst hx; exact ⟨by constructor <;> (show _ ≤ _) <;> omega, by show kp.length ≤ _; omega, hkb⟩))) ?_
              rintro _ _ ⟨e52, s52, hs52, rfl, rfl⟩; refine ⟨by repeat (first | with_reducible exact dr_refl | apply dr_keep | apply dr_drop), ?_⟩
              obtain ⟨rfl, rfl⟩ : e48 = e52 ∧ s48 = s52 := by rw [hs48] at hs52; simpa using hs52
              refine th_take (i := 11) (listed' := #[tt,tt,tt,tt,tt,tt,tt,tt,tt,tt,tt,tt,ff]) rfl (by kernel_rfl) (by kernel_rfl) (by kernel_rfl) rfl rfl (o_nei rfl rfl) ?_; refine th_take (i := 12) (listed' := #[tt,tt,tt,tt,tt,tt,tt,tt,tt,tt,tt,tt,tt]) rfl (by kernel_rfl) (by kernel_rfl) (by kernel_rfl) rfl rfl (o_pick_t rfl (by conv => lhs; whnf)) ?_; refine th_done (by kernel_rfl) ?_; refine q_then_n ?_; refine tc_cond rfl (fun h => ?_) (fun h => ?_)
              · exfalso; simp at h
              · try simp only [lv1, lv2, lv3, lv4, lv5, lv6, Bool.not_true, Bool.not_false] at h
                refine tc_skip ?_; exact ⟨s48, (by first | exact ha0 | exact ⟨ha0.1, rfl⟩ | exact armS_any (from_live k xs).1 (from_live k xs).2 hs48), rfl, rfl, (by repeat (first | with_reducible exact dr_refl | apply dr_keep | apply dr_drop))⟩
          · skip
            refine oh_x (i := 9) (listed' := #[tt,tt,tt,tt,tt,ff,ff,tt,tt,tt,ff,ff,ff]) rfl rfl rfl (o_buildSliceK (k := 2) (l := [.int .i64 af, .slice ka kp.length kc]) Tryz.underlying48 sz79 z79 rfl rfl (by decide)) ?_; rintro _ _ ⟨b51, rfl, rfl⟩; refine ⟨by repeat (first | with_reducible exact dr_refl | apply dr_keep | apply dr_drop), ?_⟩; refine th_one (i := 5) (by kernel_rfl) ?_; refine oh_x (i := 5) (listed' := #[tt,tt,tt,tt,tt,tt,ff,tt,tt,tt,ff,ff,ff]) rfl rfl rfl (o_buildSliceK (k := 2) (l := [.int .i64 af, .slice ka kp.length kc]) Tryz.underlying48 sz79 z79 rfl rfl (by decide)) ?_; rintro _ _ ⟨b47, rfl, rfl⟩; refine ⟨by repeat (first | with_reducible exact dr_refl | apply dr_keep | apply dr_drop), ?_⟩; refine th_one (i := 6) (by kernel_rfl) ?_; refine oh_c (i := 6) (listed' := #[tt,tt,tt,tt,tt,tt,tt,tt,tt,tt,ff,ff,ff]) rfl rfl rfl (o_call bd41 rfl (Arm_c (s := fromS k xs) (kvs := [.slice ka kp.length kc]) (ars := [(af, kp)]) (hm := rfl) (hr := ⟨by repeat (first | assumption | exact rs_sl | exact rs_pt0 | exact rs_none | apply Rs.left), rfl, fun i h => by have h0 : i = 0 := (by simpa using h); subst h0; exact ⟨_, _, rfl, (by show kp.length ≤ _; exact hkc), (by repeat (first | exact hrk | apply Rs.left))⟩⟩) (hk := fun x hx => by simp only [List.mem_singleton] at hx; subst hx; exact ⟨by constructor <;> (show _ ≤ _) <;> omega, by show kp.length ≤ _; omega, hkb⟩))) ?_; rintro _ _ ⟨e48, s48, hs48, rfl, rfl⟩
            refine ⟨by repeat (first | with_reducible exact dr_refl | apply dr_keep | apply dr_drop), ?_⟩; refine th_one (i := 10) (by kernel_rfl) ?_; refine oh_c (i := 10) (listed' := #[tt,tt,tt,tt,tt,tt,tt,tt,tt,tt,tt,ff,ff]) rfl rfl rfl (o_call bd42 rfl (rArm_c (s := fromS k xs) (kvs := [.slice ka kp.length kc]) (ars := [(af, kp)]) (hm := rfl) (hr := ⟨by repeat (first | assumption | exact rs_sl | exact rs_pt0 | exact rs_none | apply Rs.left), rfl, fun i h => by have h0 : i = 0 := (by simpa using h); subst h0; exact ⟨_, _, rfl, (by show kp.length ≤ _; exact hkc), (by repeat (first | exact hrk | apply Rs.left))⟩⟩) (hk := fun x hx => by simp only [List.mem_singleton] at hx; subst hx; exact ⟨by constructor <;> (show _ ≤ _) <;> omega, by show kp.length ≤ _; omega, hkb⟩))) ?_; rintro _ _ ⟨e52, s52, hs52, rfl, rfl⟩; refine ⟨by repeat (first | with_reducible exact dr_refl | apply dr_keep | apply dr_drop), ?_⟩
            obtain ⟨rfl, rfl⟩ : e48 = e52 ∧ s48 = s52 := by rw [hs48] at hs52; simpa using hs52
            refine th_take (i := 11) (listed' := #[tt,tt,tt,tt,tt,tt,tt,tt,tt,tt,tt,tt,ff]) rfl (by kernel_rfl) (by kernel_rfl) (by kernel_rfl) rfl rfl (o_nei rfl rfl) ?_; refine th_take (i := 12) (listed' := #[tt,tt,tt,tt,tt,tt,tt,tt,tt,tt,tt,tt,tt]) rfl (by kernel_rfl) (by kernel_rfl) (by kernel_rfl) rfl rfl (o_pick_t rfl (by conv => lhs; whnf)) ?_; refine th_done (by kernel_rfl) ?_; refine q_then_n ?_; refine tc_cond rfl (fun h => ?_) (fun h => ?_)
            · exfalso; simp at h
            · try simp only [lv1, lv2, lv3, lv4, lv5, lv6, Bool.not_true, Bool.not_false] at h
              refine tc_skip ?_; exact ⟨s48, (by first | exact ha0 | exact ⟨ha0.1, rfl⟩ | exact armS_any (from_live k xs).1 (from_live k xs).2 hs48), rfl, rfl, (by repeat (first | with_reducible exact dr_refl | apply dr_keep | apply dr_drop))⟩
        · obtain ⟨s48, hs48z⟩ : ∃ s, s = fromS k xs := ⟨_, rfl⟩
          rw [← hs48z]
          have ha0 : s48.off = false ∧ s48.ls = (fromS k xs).ls := by rw [hs48z]; exact ⟨(from_live k xs).1, rfl⟩
          refine th_skip (i := 3) (listed' := #[tt,tt,tt,tt,ff,ff,ff,ff,ff,ff,ff,ff,ff]) rfl (by kernel_rfl) (by kernel_rfl) (by kernel_rfl) rfl rfl ?_; refine th_skip (i := 4) (listed' := #[tt,tt,tt,tt,tt,ff,ff,ff,ff,ff,ff,ff,ff]) rfl (by kernel_rfl) (by kernel_rfl) (by kernel_rfl) rfl rfl ?_; refine th_skip (i := 5) (listed' := #[tt,tt,tt,tt,tt,tt,ff,ff,ff,ff,ff,ff,ff]) rfl (by kernel_rfl) (by kernel_rfl) (by kernel_rfl) rfl rfl ?_; refine th_skip (i := 6) (listed' := #[tt,tt,tt,tt,tt,tt,tt,ff,ff,ff,ff,ff,ff]) rfl (by kernel_rfl) (by kernel_rfl) (by kernel_rfl) rfl rfl ?_; refine th_skip (i := 7) (listed' := #[tt,tt,tt,tt,tt,tt,tt,tt,ff,ff,ff,ff,ff]) rfl (by kernel_rfl) (by kernel_rfl) (by kernel_rfl) rfl rfl ?_; refine th_skip (i := 8) (listed' := #[tt,tt,tt,tt,tt,tt,tt,tt,tt,ff,ff,ff,ff]) rfl (by kernel_rfl) (by kernel_rfl) (by kernel_rfl) rfl rfl ?_; refine th_skip (i := 9) (listed' := #[tt,tt,tt,tt,tt,tt,tt,tt,tt,tt,ff,ff,ff]) rfl (by kernel_rfl) (by kernel_rfl) (by kernel_rfl) rfl rfl ?_; refine th_skip (i := 10) (listed' := #[tt,tt,tt,tt,tt,tt,tt,tt,tt,tt,tt,ff,ff]) rfl (by kernel_rfl) (by kernel_rfl) (by kernel_rfl) rfl rfl ?_; refine th_skip (i := 11) (listed' := #[tt,tt,tt,tt,tt,tt,tt,tt,tt,tt,tt,tt,ff]) rfl (by kernel_rfl) (by kernel_rfl) (by kernel_rfl) rfl rfl ?_; refine th_take (i := 12) (listed' := #[tt,tt,tt,tt,tt,tt,tt,tt,tt,tt,tt,tt,tt]) rfl (by kernel_rfl) (by kernel_rfl) (by kernel_rfl) rfl rfl (o_pick_f rfl (by conv => lhs; whnf)) ?_
          refine th_done (by kernel_rfl) ?_; refine q_then_n ?_; refine tc_cond_f rfl ?_; refine tc_skip ?_; exact ⟨s48, (by first | exact ha0 | exact ⟨ha0.1, rfl⟩ | exact armS_any (from_live k xs).1 (from_live k xs).2 hs48), rfl, rfl, (by repeat (first | with_reducible exact dr_refl | apply dr_keep | apply dr_drop))⟩
      · intro ρ B hI
        obtain ⟨s48, hj0, hE8, hE10, hBA⟩ := hI
        refine q_then_n ?_; refine tc_pre hBA.sat ?_
        clear hBA
        refine tc_env (d := 8) hE8 ?_; refine tc_env (d := 10) hE10 ?_
        clear hE8 hE10
        refine tc_seq ?_
        have hs48q := hj0
        have hl48 : s48.ls.length = k := by rw [hs48q.2]; exact from_lslen k xs
        have hroom : Room 256 s48 := fun l hl => by rw [hs48q.2] at hl; exact room_from (by decide) l hl
        refine tc_reg ?_; refine tlm ?_; refine tl_c rfl (o_call bd15 rfl (Format_any (s := s48) (hoff := hs48q.1) (hroom := hroom))) ?_; rintro _ _ ⟨m0, m1, m2, m3, m4, e57, s57, hs57, rfl, rfl⟩; refine tlm ?_; refine tv (o_extract rfl rfl) ?_; refine tv (o_extract rfl rfl) ?_; refine tl_x rfl (o_alloc z42 rfl) ?_; rintro _ _ ⟨b13, rfl, rfl⟩; refine tl_u rfl (o_stUN (l' := ints [m0, m1, m2, m3, m4]) rfl (by repeat (first | with_reducible exact upd_here | with_reducible exact upd_pt | apply upd_left)) sz42 rfl rfl rfl (by show 5 ≤ 5; decide) rfl) ?_; refine tla ?_; refine nq ?_; refine sr ?_; refine tlm ?_; refine tl_c rfl (o_call bd68 rfl (rFormat_any (s := s48) (hoff := hs48q.1) (hroom := hroom))) ?_; rintro _ _ ⟨n0, n1, n2, n3, n4, e62, s62, hs62, rfl, rfl⟩
        rw [hs57] at hs62
        simp only [Prod.mk.injEq, List.cons.injEq, and_true] at hs62
        obtain ⟨⟨⟨rfl, rfl, rfl, rfl, rfl⟩, rfl⟩, rfl⟩ := hs62
        refine tlm ?_; refine tv (o_extract rfl rfl) ?_; refine tv (o_extract rfl rfl) ?_; refine tl_x rfl (o_alloc z42 rfl) ?_; rintro _ _ ⟨b14, rfl, rfl⟩; refine tl_u rfl (o_stUN (l' := ints [m0, m1, m2, m3, m4]) rfl (by repeat (first | with_reducible exact upd_here | with_reducible exact upd_pt | apply upd_left)) sz42 rfl rfl rfl (by show 5 ≤ 5; decide) rfl) ?_; refine tla ?_; refine nq ?_; refine tc_seq ?_; refine sr ?_; refine tv (o_loadN (vs := ints [m0, m1, m2, m3, m4]) a42 sz42 rfl (by repeat (first | with_reducible exact has_here | with_reducible exact has_pt | apply has_left)) (by show 5 ≤ 5; decide) rfl) ?_; refine tv (o_loadN (vs := ints [m0, m1, m2, m3, m4]) a42 sz42 rfl (by repeat (first | with_reducible exact has_here | with_reducible exact has_pt | apply has_left)) (by show 5 ≤ 5; decide) rfl) ?_; refine tv (o_nest (k := 5) (l := [m0, m1, m2, m3, m4]) (m := [m0, m1, m2, m3, m4]) Tryz.underlying42 (by kernel_rfl) (by kernel_rfl) (by kernel_rfl) rfl rfl rfl rfl) ?_; refine tlm ?_; refine tl_bool (d := 68) rfl (fun h => ?_) (fun h => ?_)
        · exfalso; simp at h
        · try simp only [lv1, lv2, lv3, lv4, lv5, lv6, Bool.not_true, Bool.not_false] at h
          refine tlm ?_; refine tlm ?_; refine tv (o_nei rfl rfl) ?_; refine tv (o_pick_f rfl (by conv => lhs; whnf)) ?_; refine tlm ?_; refine tl_bool (d := 73) rfl (fun h => ?_) (fun h => ?_)
          · exfalso; simp at h
          · try simp only [lv1, lv2, lv3, lv4, lv5, lv6, Bool.not_true, Bool.not_false] at h
            refine tlm ?_; refine tl_c rfl (o_call bd47 rfl (Ops_c (s := s57))) ?_; rintro _ _ ⟨rfl, rfl⟩; refine tlm ?_; refine tl_c rfl (o_call bd48 rfl (rOps_c (s := s57))) ?_; rintro _ _ ⟨rfl, rfl⟩; refine tv (o_nei rfl rfl) ?_; refine tv (o_pick_f rfl (by conv => lhs; whnf)) ?_; refine tlm ?_; refine tl_bool (d := 80) rfl (fun h => ?_) (fun h => ?_)
            · exfalso; simp at h
            · try simp only [lv1, lv2, lv3, lv4, lv5, lv6, Bool.not_true, Bool.not_false] at h
              refine tlm ?_; refine tl_c rfl (o_call bd49 rfl (Off_c (s := s57))) ?_; rintro _ _ ⟨rfl, rfl⟩; refine tlm ?_; refine tl_c rfl (o_call bd50 rfl (rOff_c (s := s57))) ?_; rintro _ _ ⟨rfl, rfl⟩; refine tv (o_neb Tryz.underlying4 rfl rfl) ?_; refine tv (o_pick_f rfl (by conv => lhs; whnf)) ?_; refine tlm ?_; refine tl_bool (d := 87) rfl (fun h => ?_) (fun h => ?_)
              · exfalso; simp at h
              · try simp only [lv1, lv2, lv3, lv4, lv5, lv6, Bool.not_true, Bool.not_false] at h
                refine tlm ?_; refine tl_c rfl (o_call bd45 rfl (Wake_c (s := s57))) ?_; rintro _ _ ⟨rfl, rfl⟩; refine tlm ?_; refine tl_c rfl (o_call bd46 rfl (rWake_c (s := s57))) ?_; rintro _ _ ⟨rfl, rfl⟩; refine tv (o_nei rfl rfl) ?_; refine tv (o_pick_f rfl (by conv => lhs; whnf)) ?_; refine nq ?_; refine tc_cond rfl (fun h => ?_) (fun h => ?_)
                · exfalso; simp at h
                · try simp only [lv1, lv2, lv3, lv4, lv5, lv6, Bool.not_true, Bool.not_false] at h
                  refine tc_skip ?_; refine q_then_n ?_; refine tc_seq ?_; refine tc_seq ?_
                  obtain ⟨s3, hs3⟩ : ∃ s3, s3 = { s57 with off := false } := ⟨_, rfl⟩
                  rw [← hs3]
                  refine tc_have (fun _ _ h => wfR_ct (r := d30) (s := s3) (by repeat (first | with_reducible exact ct_here | apply ct_left)) h) fun hw3 => ?_
                  have hil := imgS_len hw3
                  have htop3 := hw3.top
                  obtain ⟨q0, q1, q2, q3, q4, hq⟩ := five_i (rdA_len s3)
                  obtain ⟨e0, he0⟩ : ∃ e0, e0 = (rdA s3).2 := ⟨_, rfl⟩
                  have hrd : rdA s3 = ([q0, q1, q2, q3, q4], e0) := by rw [← hq, he0]
                  obtain ⟨w6, hw6⟩ : ∃ w6, w6 = (rootA s3).1 := ⟨_, rfl⟩
                  obtain ⟨e6, he6⟩ : ∃ e6, e6 = (rootA s3).2 := ⟨_, rfl⟩
                  have hroot : rootA s3 = (w6, e6) := by rw [hw6, he6]
                  refine tc_reg ?_; refine tla ?_; refine nq ?_; refine tc_block ?_; refine tc_loop (fun kk ρ BB => ∃ (i : Nat), (i ≤ 4) ∧ kk = 4 - i ∧ ρ 15 = .int .i64 (i : Nat) ∧ ρ 8 = .pointer (some ⟨d25, 0, none⟩) ∧ ρ 10 = .pointer (some ⟨d30, 0, none⟩) ∧ ρ 13 = .pointer (some ⟨b13, 0, none⟩) ∧ ρ 14 = .pointer (some ⟨b14, 0, none⟩) ∧ BB = A * Dev d25 s3 * RDev d30 s3 * pt b13 (cl (ints [m0, m1, m2, m3, m4]) 42) * pt b14 (cl (ints [m0, m1, m2, m3, m4]) 42)) (m := 4 - (0)) ?_ ?_
                  · exact ⟨0, by omega, rfl, rfl, rfl, rfl, rfl, rfl, rfl⟩
                  · intro k ρ B hI
                    obtain ⟨i, hp0, hkk1, hE15, hE8, hE10, hE13, hE14, rfl⟩ := hI
                    refine tc_env (d := 15) hE15 ?_; refine tc_env (d := 8) hE8 ?_; refine tc_env (d := 10) hE10 ?_; refine tc_env (d := 13) hE13 ?_; refine tc_env (d := 14) hE14 ?_
                    clear hE15 hE8 hE10 hE13 hE14
                    refine tc_seq ?_; refine sr ?_; refine tlm ?_; refine tv (o_lss rfl rfl) ?_; refine nq ?_; refine tc_cond rfl (fun h => ?_) (fun h => ?_)
                    · try simp only [lv1, lv2, lv3, lv4, lv5, lv6, Bool.not_true, Bool.not_false] at h
                      refine tc_skip ?_; refine q_then_n ?_; refine tc_seq ?_; refine tc_block ?_; refine sr ?_; refine tlm ?_; refine tlm ?_; refine tl_c rfl (o_call bd57 rfl (Contents_any (s := s3) (q := i))) ?_; rintro _ _ ⟨a100, c100, vs100, rfl, hc100, rfl⟩; refine tlm ?_; refine tlm ?_; refine tl_c rfl (o_call bd58 rfl (rContents_any (s := s3) (q := i))) ?_; rintro _ _ ⟨a103, c103, vs103, rfl, hc103, rfl⟩
                      have hq := ctS_rows hw3 i
                      refine tl_have (fun _ _ h => rwF_parts h) fun hf2 => ?_; refine tl_have (fun _ _ h => rwF_parts h.left.left) fun hf1 => ?_; refine tl_c rfl (o_call bd56 rfl (EqRows_c (ls := ctS i s3) (ms := ctS i s3) (vs := vs100) (ws := vs103) (h1 := hf1.left.left) (h2 := hf2) (hn := rfl) (hm := rfl) (hnl := by omega) (hml := by omega) (hl1 := fun l hl => by have := hq.2 l hl; omega) (hl2 := fun l hl => by have := hq.2 l hl; omega))) ?_; rintro _ _ ⟨rfl, rfl⟩; refine tl_env (d := 104) (v := .bool true) (congrArg Value.bool (decide_eq_true rfl)) ?_; refine tv (o_not rfl) ?_; refine nq ?_; refine tc_cond rfl (fun h => ?_) (fun h => ?_)
                      · exfalso; simp at h
                      · try simp only [lv1, lv2, lv3, lv4, lv5, lv6, Bool.not_true, Bool.not_false] at h
                        refine tc_skip ?_; refine q_block_n (q_then_n ?_); refine tc_pre (A' := A * Dev d25 s3 * RDev d30 s3 * pt b13 (cl (ints [m0, m1, m2, m3, m4]) 42) * pt b14 (cl (ints [m0, m1, m2, m3, m4]) 42)) (Dr.sat (by repeat (first | with_reducible exact dr_refl | apply dr_keep | apply dr_drop))) ?_; refine tc_reg ?_; refine tlm ?_; refine tv (by first | exact o_addI rfl rfl (by omega) | exact o_add rfl rfl) ?_; refine tla ?_; refine nq ?_; exact ⟨_, by omega, i + 1, by omega, rfl, rfl, rfl, rfl, rfl, rfl, rfl⟩
                    · try simp only [lv1, lv2, lv3, lv4, lv5, lv6, Bool.not_true, Bool.not_false] at h
                      refine tc_exit ?_; refine q_then_e (q_then_e (q_block_x (q_then_n ?_))); refine sr ?_; refine tlm ?_; refine tl_c rfl (o_call bd16 rfl (Read_5 (s := s3) (by repeat (first | with_reducible exact ct_here | apply ct_left)) hrd)) ?_; rintro _ _ ⟨rfl, rfl⟩; refine tlm ?_; refine tv (o_extract rfl rfl) ?_; refine tv (o_extract rfl rfl) ?_; refine tl_u rfl (o_stUN (l' := ints [q0, q1, q2, q3, q4]) rfl (by repeat (first | with_reducible exact upd_here | with_reducible exact upd_pt | apply upd_left)) sz42 rfl rfl rfl (by show 5 ≤ 5; decide) rfl) ?_; refine tla ?_; refine nq ?_; refine sr ?_; refine tlm ?_; refine tl_c rfl (o_call bd69 rfl (rRead_5 (s := s3) (by repeat (first | with_reducible exact ct_here | apply ct_left)) hrd)) ?_; rintro _ _ ⟨rfl, rfl⟩; refine tlm ?_; refine tv (o_extract rfl rfl) ?_; refine tv (o_extract rfl rfl) ?_; refine tl_u rfl (o_stUN (l' := ints [q0, q1, q2, q3, q4]) rfl (by repeat (first | with_reducible exact upd_here | with_reducible exact upd_pt | apply upd_left)) sz42 rfl rfl rfl (by show 5 ≤ 5; decide) rfl) ?_
                      refine tla ?_; refine nq ?_; refine sr ?_; refine tlm ?_; refine tl_c rfl (o_call bd17 rfl (Root_5 (s := s3) (by repeat (first | with_reducible exact ct_here | apply ct_left)) hroot)) ?_; rintro _ _ ⟨rfl, rfl⟩; refine tlm ?_; refine tv (o_extract rfl rfl) ?_; refine tv (o_extract rfl rfl) ?_; refine tla ?_; refine tla ?_; refine nq ?_; refine sr ?_; refine tlm ?_; refine tl_c rfl (o_call bd70 rfl (rRoot_5 (s := s3) (by repeat (first | with_reducible exact ct_here | apply ct_left)) hroot)) ?_; rintro _ _ ⟨rfl, rfl⟩; refine tlm ?_; refine tv (o_extract rfl rfl) ?_; refine tv (o_extract rfl rfl) ?_; refine tla ?_; refine tla ?_; refine nq ?_; refine sr ?_; refine tv (o_loadN (vs := ints [q0, q1, q2, q3, q4]) a42 sz42 rfl (by repeat (first | with_reducible exact has_here | with_reducible exact has_pt | apply has_left)) (by show 5 ≤ 5; decide) rfl) ?_
                      refine tv (o_loadN (vs := ints [q0, q1, q2, q3, q4]) a42 sz42 rfl (by repeat (first | with_reducible exact has_here | with_reducible exact has_pt | apply has_left)) (by show 5 ≤ 5; decide) rfl) ?_; refine tv (o_eqst (k := 5) (l := [q0, q1, q2, q3, q4]) (m := [q0, q1, q2, q3, q4]) Tryz.underlying42 (by kernel_rfl) (by kernel_rfl) (by kernel_rfl) rfl rfl rfl rfl) ?_; refine tlm ?_; refine tl_bool (d := 129) rfl (fun h => ?_) (fun h => ?_)
                      · try simp only [lv1, lv2, lv3, lv4, lv5, lv6, Bool.not_true, Bool.not_false] at h
                        refine tlm ?_; refine tlm ?_; refine tv (o_eqi rfl rfl) ?_; refine tv (o_pick_t rfl (by conv => lhs; whnf)) ?_; refine tlm ?_; refine tl_bool (d := 134) rfl (fun h => ?_) (fun h => ?_)
                        · try simp only [lv1, lv2, lv3, lv4, lv5, lv6, Bool.not_true, Bool.not_false] at h
                          refine tlm ?_; refine tlm ?_; refine tv (o_eqi rfl rfl) ?_; refine tv (o_pick_t rfl (by conv => lhs; whnf)) ?_; refine tlm ?_; refine tl_bool (d := 139) rfl (fun h => ?_) (fun h => ?_)
                          · try simp only [lv1, lv2, lv3, lv4, lv5, lv6, Bool.not_true, Bool.not_false] at h
                            refine tlm ?_; refine tlm ?_; refine tv (o_eqi rfl rfl) ?_; refine tv (o_pick_t rfl (by conv => lhs; whnf)) ?_; refine tlm ?_; refine tl_bool (d := 144) rfl (fun h => ?_) (fun h => ?_)
                            · try simp only [lv1, lv2, lv3, lv4, lv5, lv6, Bool.not_true, Bool.not_false] at h
                              refine tlm ?_; refine tl_c rfl (o_call bd54 rfl (Image_c (s := s3))) ?_; rintro _ _ ⟨a146, c146, rfl, hc146, rfl⟩; refine tlm ?_; refine tl_c rfl (o_call bd55 rfl (rImage_c (s := s3))) ?_; rintro _ _ ⟨a148, c148, rfl, hc148, rfl⟩; refine tl_c rfl (o_call bd53 rfl (EqBytes_c (xs := imgS s3) (ys := imgS s3) (hx := hil) (hy := hil))) ?_; rintro _ _ ⟨rfl, rfl⟩; refine tl_env (d := 149) (v := .bool true) (congrArg Value.bool (decide_eq_true rfl)) ?_; refine tv (o_pick_t rfl (by conv => lhs; whnf)) ?_; refine tlm ?_; refine tl_bool (d := 151) rfl (fun h => ?_) (fun h => ?_)
                              · try simp only [lv1, lv2, lv3, lv4, lv5, lv6, Bool.not_true, Bool.not_false] at h
                                refine tl_c rfl (o_call bd19 rfl (works_c)) ?_; rintro _ _ ⟨rfl, rfl⟩; refine tv (o_pick_t rfl (by conv => lhs; whnf)) ?_; refine tla ?_; refine nq ?_; refine tc_ret ?_; exact ⟨.bool true, A, res1 rfl rfl, Dr.sat (by repeat (first | with_reducible exact dr_refl | apply dr_keep | apply dr_drop)), rfl, rfl⟩
                              · exfalso; simp at h
                            · exfalso; simp at h
                          · exfalso; simp at h
                        · exfalso; simp at h
                      · exfalso; simp at h
set_option maxRecDepth 20000 in
theorem SuperFormats_L (F : SP) (cs : Array Value) (t : ImC) (h : PImg F cs.toList t) (v2 : Value) (af : Int) (haf : PInt .i64 [v2] af) (v3 : Value) (kp : List Int) (hkp : PInts F [v3] kp) :
    Fn Tryz.prog 12 #[.agg cs, v2, v3] F (fun r B => r = .bool true ∧ B = F) := by
  obtain ⟨e, h1, h2, h3, h4, h5, h6, h7⟩ := h
  obtain ⟨e2, hafw⟩ := haf
  have haf := i64_wf hafw
  obtain ⟨ka, kc, e3, k1, k2, k3, k4⟩ := hkp
  simp only [List.cons.injEq, and_true] at e2 e3
  subst e2 e3
  have ecs : cs = t.cells.toArray := by rw [← e]
  rw [ecs, img_cells h5.1]
  by_cases c : t.sz < 0 ∨ 4194368 < t.sz
  · exact SuperFormats_n1 F h1 h2 (by omega) h6 h4 k3 k2 (fun k hk => (k4 k hk).2) haf k1 c
  · obtain ⟨n, hn⟩ : ∃ n : Nat, t.sz = (n : Int) := ⟨t.sz.toNat, by omega⟩
    rw [hn]
    by_cases hf : fitsB (n : Nat) = true
    · have hf' : 64 ≤ (n : Int) ∧ (n : Int) ≤ 4194304 ∧ (n : Int) % 64 = 0 := by unfold fitsB at hf; simpa using hf
      exact SuperFormats_ok F h1 h2 (by omega) h6 h4 k3 k2 (fun k hk => (k4 k hk).2) haf k1 (k := n / 64) (by omega) (by omega) (by omega)
    · exact SuperFormats_n2 F h1 h2 (by omega) h6 h4 k3 k2 (fun k hk => (k4 k hk).2) haf k1 (by omega) (by simpa using hf)
end Go.Vl

set_option linter.unusedVariables false
set_option linter.unusedSimpArgs false
namespace Go.Vl
open Go Go.Proofs
def PSup (cs : List Value) (x : Int × Int × Int × Int × Int) : Prop := cs = ints [x.1, x.2.1, x.2.2.1, x.2.2.2.1, x.2.2.2.2]
end Go.Vl

set_option linter.unusedVariables false
set_option linter.unusedSimpArgs false
namespace Go.Vl
open Go Go.Proofs
theorem fil_set {L : List Nat} {n i : Nat} (h : i < L.length) (hn : L.length ≤ n) : (L.take i ++ List.replicate (n - i) 0).set i L[i] = L.take (i + 1) ++ List.replicate (n - (i + 1)) 0 := by
  have e : n - i = (n - (i + 1)) + 1 := by omega
  have hl : (L.take i).length = i := by rw [List.length_take]; omega
  rw [List.set_append_right _ _ (by omega), hl, Nat.sub_self, e, List.replicate_succ, List.set_cons_zero, List.take_succ_eq_append_getElem h, List.append_assoc]; rfl
theorem sbB_lt (ns : List Nat) : ∀ x ∈ sbB ns, x < 256 := by
  intro x hx
  unfold sbB at hx
  rw [List.mem_append] at hx
  rcases hx with hx | hx
  · exact mbs_lt ns x hx
  · exact le_bytes 8 _ x hx
theorem xor_ne {a m : Nat} : a ^^^ 2 ^ m ≠ a := fun h => by
  have h1 : a ^^^ (a ^^^ 2 ^ m) = a ^^^ a := by rw [h]
  rw [← Nat.xor_assoc, Nat.xor_self, Nat.zero_xor] at h1
  exact absurd h1 (Nat.ne_of_gt (Nat.two_pow_pos m))
theorem img_lenS {n : Nat} {xs : List Nat} (hb : ∀ x ∈ xs, x < 256) (hl : xs.length = n * 64) : (imgS (fromS n xs)).length = n * 64 := by rw [img_from hb hl, hl]
theorem Read_f {A R : SP} {C : SP → SP} {d : Nat} {n m : Nat} {xs : List Nat} (hc : Ct A (Dev d (fromS m xs)) R C) (hb : ∀ x ∈ xs, x < 256) (hl : xs.length = m * 64) (hm : m * 64 = n) (hn : 36992 ≤ n ∧ n ≤ 4194304 ∧ n % 64 = 0) {l : List Int} {e : Int} (hr : rdT n xs = (l, e)) :
    Fn Tryz.prog 16 #[.pointer (some ⟨d, 0, none⟩)] A (fun r B => r = .tuple #[.agg (ints l).toArray, .int .i64 e] ∧ A = B) := by
  have := Read_ok (n := n) hc rfl (by simp [fromS, newS]; exact hm) hn (by rw [img_lenS hb hl]; exact hm)
  rw [img_from hb hl, hr] at this; exact this
attribute [local irreducible] crk crL crc Sl pt ro mbs sbB planT Dev imgS fromS
set_option maxRecDepth 20000 in
set_option maxHeartbeats 1000000 in
theorem SuperBits_ok (A : SP) {n : Nat} (k : Int) (hn : 36992 ≤ n ∧ n ≤ 4194304 ∧ n % 64 = 0) :
    Fn Tryz.prog 18 #[.int .i64 (n : Int), .int .i64 k] (A) (fun r B => r = .bool true ∧ A = B) := by
  refine fn_enterW (args := [.int .i64 (n : Int), .int .i64 k]) Tryz.func18 rfl Tryz.ntmps18 (by simp) ?_
  obtain ⟨S, hS⟩ : ∃ S, S = sbB [n, 128, 32768, 32896, (n - 32896) / 256, 0] := ⟨_, rfl⟩
  have hSl : S.length = 64 := by rw [hS]; exact sbB_len rfl
  have hSb : ∀ x ∈ S, x < 256 := by rw [hS]; exact sbB_lt _
  obtain ⟨I, hI⟩ : ∃ I, I = S ++ List.replicate (n - 64) 0 := ⟨_, rfl⟩
  have hIl : I.length = n := by rw [hI, List.length_append, hSl, List.length_replicate]; omega
  have hIb : ∀ x ∈ I, x < 256 := by
    rw [hI]; intro x hx
    rw [List.mem_append] at hx
    rcases hx with hx | hx
    · exact hSb x hx
    · have := List.eq_of_mem_replicate hx; omega
  have hIt : I.take 64 = S := by rw [hI, ← hSl, List.take_left]
  obtain ⟨q, hq⟩ : ∃ q, q = k.tmod 512 := ⟨_, rfl⟩
  have hq1 : q < 512 := by rw [hq]; exact Int.tmod_lt_of_pos k (by decide)
  have hq2 : -512 < q := by rw [hq]; exact Int.lt_tmod_of_pos k (by decide)
  refine sr ?_; refine tla ?_; refine nq ?_; refine sr ?_; refine tlm ?_; refine tl_c rfl (o_call bd61 rfl (Plan_ok hn)) ?_; rintro _ _ ⟨rfl, rfl⟩; refine tlm ?_; refine tv (o_extract rfl rfl) ?_; refine tv (o_extract rfl rfl) ?_; refine tl_x rfl (o_alloc z42 rfl) ?_; rintro _ _ ⟨b5, rfl, rfl⟩; refine tl_u rfl (o_stUN (l' := ints [(n : Int), ((128 : Nat) : Int), ((32768 : Nat) : Int), ((32896 : Nat) : Int), (((n - 32896) / 256 : Nat) : Int)]) rfl (by repeat (first | with_reducible exact upd_here | with_reducible exact upd_pt | apply upd_left)) sz42 rfl rfl rfl (by simp) rfl) ?_; refine tla ?_; refine nq ?_; refine tc_seq ?_; refine sr ?_; refine tlm ?_; refine tv (o_nei rfl rfl) ?_; refine nq ?_; refine tc_cond rfl (fun h => ?_) (fun h => ?_)
  · exfalso; simp at h
  · try simp only [lv1, lv2, lv3, lv4, lv5, lv6, Bool.not_true, Bool.not_false] at h
    refine tc_skip ?_; refine q_then_n ?_; refine sr ?_; refine tv (o_loadN (vs := ints [(n : Int), ((128 : Nat) : Int), ((32768 : Nat) : Int), ((32896 : Nat) : Int), (((n - 32896) / 256 : Nat) : Int)]) a42 sz42 rfl (by repeat (first | with_reducible exact has_here | with_reducible exact has_pt | apply has_left)) (by show 5 ≤ 5; decide) rfl) ?_; refine tl_c rfl (o_call bd63 rfl (Line_ok hn)) ?_; rintro _ _ ⟨a31, c31, rfl, hc31, rfl⟩
    rw [← hS]
    refine tlm ?_; refine tv (o_extract rfl rfl) ?_; refine tv (o_extract rfl rfl) ?_; refine tla ?_; refine tla ?_; refine nq ?_; refine sr ?_; refine tlm ?_; refine tv ((o_rem rfl rfl (by decide)).cast (congrArg (Value.int .i64) hq.symm)) ?_; refine tla ?_; refine nq ?_; refine tc_seq ?_; refine sr ?_; refine tlm ?_; refine tv (o_lss rfl rfl) ?_; refine nq ?_; refine tc_cut (fun ρ BB => ∃ (j : Nat), (j < 512) ∧ ρ 1 = .int .i64 (j : Nat) ∧ ρ 0 = .int .i64 (n : Int) ∧ ρ 5 = .pointer (some ⟨b5, 0, none⟩) ∧ ρ 6 = .int .i64 0 ∧ ρ 7 = .slice a31 64 c31 ∧ BB = A * pt b5 (cl (ints [(n : Int), ((128 : Nat) : Int), ((32768 : Nat) : Int), ((32896 : Nat) : Int), (((n - 32896) / 256 : Nat) : Int)]) 42) * Sl 1 (.slice a31 64 c31) 64 (bys S)) ?_ ?_
    · skip
      refine tc_cond rfl (fun h => ?_) (fun h => ?_)
      · try simp only [lv1, lv2, lv3, lv4, lv5, lv6, Bool.not_true, Bool.not_false] at h
        refine tc_reg ?_; refine tlm ?_; refine tv (by first | exact o_addI rfl rfl (by omega) | exact o_add rfl rfl) ?_; refine tla ?_; refine tl_nil ?_; exact ⟨(q + 512).toNat, (by omega), congrArg (Value.int .i64) (by omega), rfl, rfl, rfl, rfl, rfl⟩
      · try simp only [lv1, lv2, lv3, lv4, lv5, lv6, Bool.not_true, Bool.not_false] at h
        refine tc_skip ?_; exact ⟨q.toNat, (by omega), congrArg (Value.int .i64) (by omega), rfl, rfl, rfl, rfl, rfl⟩
    · intro ρ B hI
      obtain ⟨j, hj0, hE1, hE0, hE5, hE6, hE7, rfl⟩ := hI
      refine q_then_n ?_; refine tc_env (d := 1) hE1 ?_; refine tc_env (d := 0) hE0 ?_; refine tc_env (d := 5) hE5 ?_; refine tc_env (d := 6) hE6 ?_; refine tc_env (d := 7) hE7 ?_
      clear hE1 hE0 hE5 hE6 hE7
      refine tc_seq ?_; refine sr ?_; refine tlm ?_; refine tv (o_nei rfl rfl) ?_; refine tlm ?_; refine tl_bool (d := 42) rfl (fun h => ?_) (fun h => ?_)
      · (exfalso; first | (revert h; simp; done) | (simp at h; done) | (revert h; simp; omega) | (simp at h; omega) | omega)
      · try simp only [lv1, lv2, lv3, lv4, lv5, lv6, Bool.not_true, Bool.not_false] at h
        refine tlm ?_; refine tv (o_len Tryz.underlying32 rfl) ?_; refine tv (o_nei rfl rfl) ?_; refine tv (o_pick_f rfl (by conv => lhs; whnf)) ?_; refine nq ?_; refine tc_cond rfl (fun h => ?_) (fun h => ?_)
        · exfalso; simp at h
        · try simp only [lv1, lv2, lv3, lv4, lv5, lv6, Bool.not_true, Bool.not_false] at h
          refine tc_skip ?_; refine q_then_n ?_; refine sr ?_; refine tlm ?_; refine tl_x rfl (o_makeSlice (len := n) (cap := n) Tryz.underlying32 sz5 by5 z5 rfl rfl rfl (by omega) (by omega) (by omega)) ?_; rintro _ _ ⟨b48, rfl, rfl⟩; refine tl_pre (fun _ _ h => sl_new (k := 1) (n := n) (cap := n) (xs := bys (List.replicate n 0)) h (by omega) (by simp) (by rw [Nat.mul_one, List.take_of_length_le (by simp)]; unfold bys; rw [List.map_replicate]; rfl)) ?_; refine tla ?_; refine nq ?_; refine tc_seq ?_; refine sr ?_; refine tla ?_; refine nq ?_; refine tc_block ?_; refine tc_loop (fun kk ρ BB => ∃ (i : Nat), (i ≤ 64) ∧ kk = 64 - i ∧ ρ 9 = .int .i64 (i : Nat) ∧ ρ 1 = .int .i64 (j : Nat) ∧ ρ 5 = .pointer (some ⟨b5, 0, none⟩) ∧ ρ 7 = .slice a31 64 c31 ∧ ρ 8 = .slice (some ⟨b48, 0, none⟩) n n ∧ BB = A * pt b5 (cl (ints [(n : Int), ((128 : Nat) : Int), ((32768 : Nat) : Int), ((32896 : Nat) : Int), (((n - 32896) / 256 : Nat) : Int)]) 42) * Sl 1 (.slice a31 64 c31) 64 (bys S) * Sl 1 (.slice (some ⟨b48, 0, none⟩) n n) n (bys (S.take i ++ List.replicate (n - i) 0))) (m := 64 - (0)) ?_ ?_
          · exact ⟨0, by omega, rfl, rfl, rfl, rfl, rfl, rfl, rfl⟩
          · intro k ρ B hI
            obtain ⟨i, hp0, hkk1, hE9, hE1, hE5, hE7, hE8, rfl⟩ := hI
            refine tc_env (d := 9) hE9 ?_; refine tc_env (d := 1) hE1 ?_; refine tc_env (d := 5) hE5 ?_; refine tc_env (d := 7) hE7 ?_; refine tc_env (d := 8) hE8 ?_
            clear hE9 hE1 hE5 hE7 hE8
            refine tc_seq ?_; refine sr ?_; refine tlm ?_; refine tv (o_lss rfl rfl) ?_; refine nq ?_; refine tc_cond rfl (fun h => ?_) (fun h => ?_)
            · have hi : i < S.length := by simp at h; omega
              have hSx := hSb _ (List.getElem_mem hi)
              refine tc_skip ?_; refine q_then_n ?_; refine tc_seq ?_; refine tc_block ?_; refine tc_reg ?_; refine tlm ?_; refine tlm ?_; refine tlm ?_; refine tlm ?_; refine tv (o_ixP1 Tryz.underlying32 sz5 rfl rfl (by first | omega | (simp only [bys_length, ints_length, wds_length, bos_length, List.length_append, List.length_take, List.length_drop, List.length_singleton]; omega)) (by repeat (first | exact nn_some | with_reducible exact nn_sl (by decide) | exact nn_rs (by assumption) (fun _ => by first | omega | (simp only [bys_length, ints_length, wds_length, bos_length, List.length_append, List.length_take, List.length_drop, List.length_singleton]; omega)) | apply Nn.left))) ?_; refine tv (o_ldP p5 rfl (by repeat (first | assumption | with_reducible exact rs_sl | with_reducible exact rs_pt0 | exact rs_none | apply Rs.left)) (by first | assumption | exact bys_at (by omega) | exact ints_at (by omega) | exact wds_at (by omega) | exact bos_at (by omega) | rfl)) ?_; refine tv (o_ixP1 Tryz.underlying32 sz5 rfl rfl (by first | omega | (simp only [bys_length, ints_length, wds_length, bos_length, List.length_append, List.length_take, List.length_drop, List.length_singleton]; omega)) (by repeat (first | exact nn_some | with_reducible exact nn_sl (by decide) | exact nn_rs (by assumption) (fun _ => by first | omega | (simp only [bys_length, ints_length, wds_length, bos_length, List.length_append, List.length_take, List.length_drop, List.length_singleton]; omega)) | apply Nn.left))) ?_
              refine tl_u rfl (o_stP sz5 rfl rfl rfl (by repeat (first | with_reducible exact ct_here | apply ct_left)) (by omega) (by first | exact bys_set _ _ _ | exact ints_set _ _ _ | exact wds_set' _ _ _ | exact bos_set _ _ _ | rfl)) ?_; refine tl_nil ?_; refine q_block_n (q_then_n ?_); refine tc_reg ?_; refine tlm ?_; refine tv (by first | exact o_addI rfl rfl (by omega) | exact o_add rfl rfl) ?_; refine tla ?_; refine nq ?_; exact ⟨_, by omega, i + 1, by omega, rfl, rfl, rfl, rfl, rfl, rfl, (by rw [← fil_set hi (by omega)])⟩
            · obtain rfl : i = 64 := by simp at h; omega
              rw [← hSl, List.take_length, hSl, ← hI]
              refine tc_exit ?_; refine q_then_e (q_then_e (q_block_x (q_then_n ?_))); refine sr ?_; refine tlm ?_; refine tl_c rfl (o_call bd67 rfl (From_c (n := n / 64) (xs := I))) ?_; rintro _ _ ⟨d62, rfl, rfl⟩; refine tlm ?_; refine tv (o_extract rfl rfl) ?_; refine tv (o_extract rfl rfl) ?_; refine tla ?_; refine tla ?_; refine nq ?_; refine sr ?_; refine tlm ?_
              have hr1 := rdT_t (n := n) (I := I) (by rw [hIt, hS])
              refine tl_c rfl (o_call bd16 rfl (Read_f (n := n) (m := n / 64) (xs := I) (by repeat (first | with_reducible exact ct_here | apply ct_left)) hIb (by omega) (by omega) hn hr1)) ?_; rintro _ _ ⟨rfl, rfl⟩; refine tlm ?_; refine tv (o_extract rfl rfl) ?_; refine tv (o_extract rfl rfl) ?_; refine tl_x rfl (o_alloc z42 rfl) ?_; rintro _ _ ⟨b11, rfl, rfl⟩; refine tl_u rfl (o_stUN (l' := ints [(n : Int), ((128 : Nat) : Int), ((32768 : Nat) : Int), ((32896 : Nat) : Int), (((n - 32896) / 256 : Nat) : Int)]) rfl (by repeat (first | with_reducible exact upd_here | with_reducible exact upd_pt | apply upd_left)) sz42 rfl rfl rfl (by simp) rfl) ?_; refine tla ?_; refine nq ?_; refine tc_seq ?_
              have hj8 : j / 8 < I.length := by omega
              have hx8 := hIb _ (List.getElem_mem hj8)
              have h2p : 2 ^ (j % 8) < 256 := by
                have : 2 ^ (j % 8) ≤ 2 ^ 7 := Nat.pow_le_pow_right (by decide) (by omega)
                omega
              have hx9 : I[j / 8] ^^^ 2 ^ (j % 8) < 256 := Nat.xor_lt_two_pow (n := 8) (by omega) (by omega)
              obtain ⟨I2, hI2⟩ : ∃ I2, I2 = I.set (j / 8) (I[j / 8] ^^^ 2 ^ (j % 8)) := ⟨_, rfl⟩
              have hI2l : I2.length = n := by rw [hI2, List.length_set]; exact hIl
              have hI2b : ∀ x ∈ I2, x < 256 := by
                rw [hI2]; intro x hx
                rcases List.mem_or_eq_of_mem_set hx with hx | hx
                · exact hIb x hx
                · omega
              have hI2t : I2.take 64 ≠ sbB [n, 128, 32768, 32896, (n - 32896) / 256, 0] := by
                rw [← hS, ← hIt, hI2]
                intro e
                have e1 := congrArg (fun l => l[j / 8]?) e
                simp only [List.getElem?_take, show j / 8 < 64 by omega, if_true, List.getElem?_set_self hj8, List.getElem?_eq_getElem hj8, Option.some.injEq] at e1
                exact xor_ne e1
              have hr2 := rdT_f hI2t
              refine tc_regh (S := A) mo (by repeat (first | with_reducible exact dr_refl | apply dr_keep | apply dr_drop)) ?_
              show TH _ _ _ _ _ 14 #[ff,ff,ff,ff,ff,ff,ff,ff,ff,ff,ff,ff,ff,ff] _ _
              refine th_take (i := 0) (listed' := #[tt,ff,ff,ff,ff,ff,ff,ff,ff,ff,ff,ff,ff,ff]) rfl (by kernel_rfl) (by kernel_rfl) (by kernel_rfl) rfl rfl (o_move (by conv => lhs; whnf)) ?_; refine th_take (i := 1) (listed' := #[tt,tt,ff,ff,ff,ff,ff,ff,ff,ff,ff,ff,ff,ff]) rfl (by kernel_rfl) (by kernel_rfl) (by kernel_rfl) rfl rfl (o_move (by conv => lhs; whnf)) ?_; refine th_take (i := 2) (listed' := #[tt,tt,tt,ff,ff,ff,ff,ff,ff,ff,ff,ff,ff,ff]) rfl (by kernel_rfl) (by kernel_rfl) (by kernel_rfl) rfl rfl (o_quoN (b := 8) rfl rfl (by omega)) ?_; refine th_take (i := 3) (listed' := #[tt,tt,tt,tt,ff,ff,ff,ff,ff,ff,ff,ff,ff,ff]) rfl (by kernel_rfl) (by kernel_rfl) (by kernel_rfl) rfl rfl (o_move (by conv => lhs; whnf)) ?_; refine th_take (i := 4) (listed' := #[tt,tt,tt,tt,tt,ff,ff,ff,ff,ff,ff,ff,ff,ff]) rfl (by kernel_rfl) (by kernel_rfl) (by kernel_rfl) rfl rfl (o_move (by conv => lhs; whnf)) ?_; refine th_take (i := 5) (listed' := #[tt,tt,tt,tt,tt,tt,ff,ff,ff,ff,ff,ff,ff,ff]) rfl (by kernel_rfl) (by kernel_rfl) (by kernel_rfl) rfl rfl (o_quoN (b := 8) rfl rfl (by omega)) ?_; refine th_take (i := 6) (listed' := #[tt,tt,tt,tt,tt,tt,tt,ff,ff,ff,ff,ff,ff,ff]) rfl (by kernel_rfl) (by kernel_rfl) (by kernel_rfl) rfl rfl (o_ixP1 Tryz.underlying32 sz5 rfl rfl (by first | omega | (simp only [bys_length, ints_length, wds_length, bos_length, List.length_append, List.length_take, List.length_drop, List.length_singleton]; omega)) (by repeat (first | exact nn_some | with_reducible exact nn_sl (by decide) | exact nn_rs (by assumption) (fun _ => by first | omega | (simp only [bys_length, ints_length, wds_length, bos_length, List.length_append, List.length_take, List.length_drop, List.length_singleton]; omega)) | apply Nn.left))) ?_
              refine th_take (i := 8) (listed' := #[tt,tt,tt,tt,tt,tt,tt,ff,tt,ff,ff,ff,ff,ff]) rfl (by kernel_rfl) (by kernel_rfl) (by kernel_rfl) rfl rfl (o_move (by conv => lhs; whnf)) ?_; refine th_take (i := 9) (listed' := #[tt,tt,tt,tt,tt,tt,tt,ff,tt,tt,ff,ff,ff,ff]) rfl (by kernel_rfl) (by kernel_rfl) (by kernel_rfl) rfl rfl (o_remN (b := 8) rfl rfl (by omega)) ?_; refine th_take (i := 10) (listed' := #[tt,tt,tt,tt,tt,tt,tt,ff,tt,tt,tt,ff,ff,ff]) rfl (by kernel_rfl) (by kernel_rfl) (by kernel_rfl) rfl rfl (o_shlm (a := 1) (b := j % 8) rfl rfl rfl rfl (by show _ ≤ 8; omega)) ?_; refine th_env (d := 80) (v := .int .u8 ((2 ^ (j % 8) : Nat) : Int)) (congrArg (fun z : Nat => Value.int .u8 (z : Int)) (show 1 * 2 ^ (j % 8) % 256 = 2 ^ (j % 8) by omega)) ?_; refine th_one (i := 7) (by kernel_rfl) ?_; refine oh_v (i := 7) (listed' := #[tt,tt,tt,tt,tt,tt,tt,tt,tt,tt,tt,ff,ff,ff]) rfl rfl rfl (o_ldP p5 rfl (by repeat (first | assumption | with_reducible exact rs_sl | with_reducible exact rs_pt0 | exact rs_none | apply Rs.left)) (by first | assumption | exact bys_at (by omega) | exact ints_at (by omega) | exact wds_at (by omega) | exact bos_at (by omega) | rfl)) ?_; refine th_take (i := 11) (listed' := #[tt,tt,tt,tt,tt,tt,tt,tt,tt,tt,tt,tt,ff,ff]) rfl (by kernel_rfl) (by kernel_rfl) (by kernel_rfl) rfl rfl (o_xorN rfl rfl rfl (by show _ < 256; exact hx8) (by show _ < 256; exact h2p)) ?_; refine th_take (i := 12) (listed' := #[tt,tt,tt,tt,tt,tt,tt,tt,tt,tt,tt,tt,tt,ff]) rfl (by kernel_rfl) (by kernel_rfl) (by kernel_rfl) rfl rfl (o_ixP1 Tryz.underlying32 sz5 rfl rfl (by first | omega | (simp only [bys_length, ints_length, wds_length, bos_length, List.length_append, List.length_take, List.length_drop, List.length_singleton]; omega)) (by repeat (first | exact nn_some | with_reducible exact nn_sl (by decide) | exact nn_rs (by assumption) (fun _ => by first | omega | (simp only [bys_length, ints_length, wds_length, bos_length, List.length_append, List.length_take, List.length_drop, List.length_singleton]; omega)) | apply Nn.left))) ?_
              refine th_one (i := 13) (by kernel_rfl) ?_; refine oh_u (i := 13) (listed' := #[tt,tt,tt,tt,tt,tt,tt,tt,tt,tt,tt,tt,tt,tt]) rfl rfl rfl (o_stP (ys := bys I2) sz5 rfl rfl rfl (by repeat (first | with_reducible exact ct_here | apply ct_left)) (by omega) (by rw [hI2]; exact bys_set _ _ _)) (by repeat (first | with_reducible exact dr_refl | apply dr_keep | apply dr_drop)) ?_; refine th_done (by kernel_rfl) ?_; refine q_then_n ?_; refine sr ?_; refine tlm ?_; refine tl_c rfl (o_call bd67 rfl (From_c (n := n / 64) (xs := I2))) ?_; rintro _ _ ⟨d85, rfl, rfl⟩; refine tlm ?_; refine tv (o_extract rfl rfl) ?_; refine tv (o_extract rfl rfl) ?_; refine tla ?_; refine tla ?_; refine nq ?_; refine sr ?_; refine tlm ?_; refine tl_c rfl (o_call bd16 rfl (Read_f (n := n) (m := n / 64) (xs := I2) (by repeat (first | with_reducible exact ct_here | apply ct_left)) hI2b (by omega) (by omega) hn hr2)) ?_; rintro _ _ ⟨rfl, rfl⟩; refine tlm ?_; refine tv (o_extract rfl rfl) ?_; refine tv (o_extract rfl rfl) ?_; refine tl_x rfl (o_alloc z42 rfl) ?_; rintro _ _ ⟨b15, rfl, rfl⟩; refine tl_u rfl (o_stUN (l' := ints [0, 0, 0, 0, 0]) rfl (by repeat (first | with_reducible exact upd_here | with_reducible exact upd_pt | apply upd_left)) sz42 rfl rfl rfl (by simp) rfl) ?_
              refine tla ?_; refine nq ?_; refine sr ?_; refine tlm ?_; refine tv (o_eqi rfl rfl) ?_; refine tlm ?_; refine tl_bool (d := 95) rfl (fun h => ?_) (fun h => ?_)
              · try simp only [lv1, lv2, lv3, lv4, lv5, lv6, Bool.not_true, Bool.not_false] at h
                refine tlm ?_; refine tv (o_eqi rfl rfl) ?_; refine tv (o_pick_t rfl (by conv => lhs; whnf)) ?_; refine tlm ?_; refine tl_bool (d := 99) rfl (fun h => ?_) (fun h => ?_)
                · try simp only [lv1, lv2, lv3, lv4, lv5, lv6, Bool.not_true, Bool.not_false] at h
                  refine tv (o_loadN (vs := ints [(n : Int), ((128 : Nat) : Int), ((32768 : Nat) : Int), ((32896 : Nat) : Int), (((n - 32896) / 256 : Nat) : Int)]) a42 sz42 rfl (by repeat (first | with_reducible exact has_here | with_reducible exact has_pt | apply has_left)) (by show 5 ≤ 5; decide) rfl) ?_; refine tv (o_loadN (vs := ints [(n : Int), ((128 : Nat) : Int), ((32768 : Nat) : Int), ((32896 : Nat) : Int), (((n - 32896) / 256 : Nat) : Int)]) a42 sz42 rfl (by repeat (first | with_reducible exact has_here | with_reducible exact has_pt | apply has_left)) (by show 5 ≤ 5; decide) rfl) ?_; refine tv (o_eqst (k := 5) (l := [(n : Int), ((128 : Nat) : Int), ((32768 : Nat) : Int), ((32896 : Nat) : Int), (((n - 32896) / 256 : Nat) : Int)]) (m := [(n : Int), ((128 : Nat) : Int), ((32768 : Nat) : Int), ((32896 : Nat) : Int), (((n - 32896) / 256 : Nat) : Int)]) Tryz.underlying42 (by kernel_rfl) (by kernel_rfl) (by kernel_rfl) rfl rfl rfl rfl) ?_; refine tv (o_pick_t rfl (by conv => lhs; whnf)) ?_; refine tlm ?_; refine tl_bool (d := 104) rfl (fun h => ?_) (fun h => ?_)
                  · try simp only [lv1, lv2, lv3, lv4, lv5, lv6, Bool.not_true, Bool.not_false] at h
                    refine tlm ?_; refine tv (o_eqi rfl rfl) ?_; refine tv (o_pick_t rfl (by conv => lhs; whnf)) ?_; refine tlm ?_; refine tl_bool (d := 108) rfl (fun h => ?_) (fun h => ?_)
                    · try simp only [lv1, lv2, lv3, lv4, lv5, lv6, Bool.not_true, Bool.not_false] at h
                      refine tlm ?_; refine tv (o_eqi rfl rfl) ?_; refine tv (o_pick_t rfl (by conv => lhs; whnf)) ?_; refine tlm ?_; refine tl_bool (d := 112) rfl (fun h => ?_) (fun h => ?_)
                      · try simp only [lv1, lv2, lv3, lv4, lv5, lv6, Bool.not_true, Bool.not_false] at h
                        refine tl_c rfl (o_call bd19 rfl (works_c)) ?_; rintro _ _ ⟨rfl, rfl⟩; refine tv (o_pick_t rfl (by conv => lhs; whnf)) ?_; refine tla ?_; refine nq ?_; refine tc_ret ?_; exact ⟨.bool true, A, res1 rfl rfl, Dr.sat (by repeat (first | with_reducible exact dr_refl | apply dr_keep | apply dr_drop)), rfl, rfl⟩
                      · (exfalso; first | (revert h; simp; done) | (simp at h; done) | (revert h; simp; omega) | (simp at h; omega) | omega)
                    · (exfalso; first | (revert h; simp; done) | (simp at h; done) | (revert h; simp; omega) | (simp at h; omega) | omega)
                  · (exfalso; first | (revert h; simp; done) | (simp at h; done) | (revert h; simp; omega) | (simp at h; omega) | omega)
                · (exfalso; first | (revert h; simp; done) | (simp at h; done) | (revert h; simp; omega) | (simp at h; omega) | omega)
              · (exfalso; first | (revert h; simp; done) | (simp at h; done) | (revert h; simp; omega) | (simp at h; omega) | omega)
set_option maxRecDepth 20000 in
set_option maxHeartbeats 1000000 in
theorem SuperBits_no (A : SP) {n : Int} (k : Int) (hn : ¬ (36992 ≤ n ∧ n ≤ 4194304 ∧ n % 64 = 0)) :
    Fn Tryz.prog 18 #[.int .i64 n, .int .i64 k] (A) (fun r B => r = .bool true ∧ A = B) := by
  refine fn_enterW (args := [.int .i64 n, .int .i64 k]) Tryz.func18 rfl Tryz.ntmps18 (by simp) ?_; refine sr ?_; refine tla ?_; refine nq ?_; refine sr ?_; refine tlm ?_; refine tl_c rfl (o_call bd61 rfl (Plan_q (planT_f hn))) ?_; rintro _ _ ⟨rfl, rfl⟩; refine tlm ?_; refine tv (o_extract rfl rfl) ?_; refine tv (o_extract rfl rfl) ?_; refine tl_x rfl (o_alloc z42 rfl) ?_; rintro _ _ ⟨b5, rfl, rfl⟩; refine tl_u rfl (o_stUN (l' := ints [0, 0, 0, 0, 0]) rfl (by repeat (first | with_reducible exact upd_here | with_reducible exact upd_pt | apply upd_left)) sz42 rfl rfl rfl (by simp) rfl) ?_; refine tla ?_; refine nq ?_; refine tc_seq ?_; refine sr ?_; refine tlm ?_; refine tv (o_nei rfl rfl) ?_; refine nq ?_; refine tc_cond rfl (fun h => ?_) (fun h => ?_)
  · try simp only [lv1, lv2, lv3, lv4, lv5, lv6, Bool.not_true, Bool.not_false] at h
    refine sr ?_; refine tlm ?_; refine tv (o_eqi rfl rfl) ?_; refine tlm ?_; refine tl_bool (d := 26) rfl (fun h => ?_) (fun h => ?_)
    · try simp only [lv1, lv2, lv3, lv4, lv5, lv6, Bool.not_true, Bool.not_false] at h
      refine tl_c rfl (o_call bd19 rfl (works_c)) ?_; rintro _ _ ⟨rfl, rfl⟩; refine tv (o_pick_t rfl (by conv => lhs; whnf)) ?_; refine tla ?_; refine nq ?_; refine tc_ret ?_; refine q_then_r ?_; exact ⟨.bool true, A, res1 rfl rfl, Dr.sat (by repeat (first | with_reducible exact dr_refl | apply dr_keep | apply dr_drop)), rfl, rfl⟩
    · (exfalso; first | (revert h; simp; done) | (simp at h; done) | (revert h; simp; omega) | (simp at h; omega) | omega)
  · exfalso; simp at h
theorem SuperBits_L (F : SP) (v : Value) (n : Int) (hn : PInt .i64 [v] n) (v2 : Value) (k : Int) (hk : PInt .i64 [v2] k) : Fn Tryz.prog 18 #[v, v2] F (fun r B => r = .bool true ∧ B = F) := by
  obtain ⟨e, _⟩ := hn
  obtain ⟨e2, _⟩ := hk
  simp only [List.cons.injEq, and_true] at e e2
  subst e e2
  by_cases h : 36992 ≤ n ∧ n ≤ 4194304 ∧ n % 64 = 0
  · obtain ⟨m, rfl⟩ : ∃ m : Nat, n = (m : Int) := ⟨n.toNat, by omega⟩
    exact (SuperBits_ok F k (by omega)).mono fun _ _ h => ⟨h.1, h.2.symm⟩
  · exact (SuperBits_no F k h).mono fun _ _ h => ⟨h.1, h.2.symm⟩
end Go.Vl

set_option linter.unusedVariables false
set_option linter.unusedSimpArgs false
namespace Go.Vl
open Go Go.Proofs
attribute [local irreducible] crk crL crc Sl pt ro mbs sbB planT Dev RDev imgS lineT fromS Parts
theorem stateZ_c {A : SP} {v : Value} (h0 : NoD A v := by assumption) :
    Fn Tryz.prog 72 #[v] (A) (fun r B => r = .int .i64 1 ∧ A = B) := by
  refine fn_enterW (args := [v]) Tryz.func72 rfl Tryz.ntmps72 (by simp) ?_; refine sr ?_; refine tla ?_; refine nq ?_; refine sr ?_; refine tlm ?_; refine tl_c rfl (o_call bd23 rfl (RangeZ_c)) ?_; rintro _ _ ⟨rfl, rfl⟩; refine tla ?_; refine nq ?_; refine tc_ret ?_; exact ⟨_, _, res1 rfl rfl, fun _ _ h => h, rfl, rfl⟩
theorem FormatZ_c {A : SP} {v : Value} (h0 : NoD A v := by assumption) :
    Fn Tryz.prog 15 #[v] (A) (fun r B => r = .tuple #[.agg (ints [0, 0, 0, 0, 0]).toArray, .int .i64 1] ∧ A = B) := by
  refine fn_enterW (args := [v]) Tryz.func15 rfl Tryz.ntmps15 (by simp) ?_; refine sr ?_; refine tl_x rfl (o_alloc z42 rfl) ?_; rintro _ _ ⟨b2, rfl, rfl⟩; refine tla ?_; refine nq ?_; refine tc_seq ?_; refine sr ?_; refine tlm ?_; refine tl_c rfl (o_call bd72 rfl (stateZ_c h0.left)) ?_; rintro _ _ ⟨rfl, rfl⟩; refine tla ?_; refine nq ?_; refine sr ?_; refine tlm ?_; refine tv (o_nei rfl rfl) ?_; refine nq ?_; refine tc_cond rfl (fun h => ?_) (fun h => ?_)
  · try simp only [lv1, lv2, lv3, lv4, lv5, lv6, Bool.not_true, Bool.not_false] at h
    refine sr ?_; refine tv (o_bS (l := ints [0, 0, 0, 0, 0]) pv_nil Tryz.underlying42 z42 (pl42 Tryz.underlying42) rfl) ?_; refine tlm ?_; refine tl_u rfl (o_stUN (l' := ints [0, 0, 0, 0, 0]) rfl (by repeat (first | with_reducible exact upd_here | with_reducible exact upd_pt | apply upd_left)) sz42 rfl rfl rfl (by show 5 ≤ 5; decide) rfl) ?_; refine tla ?_; refine nq ?_; refine tc_ret ?_; refine q_then_r ?_; exact ⟨.tuple #[.agg (ints [0, 0, 0, 0, 0]).toArray, .int .i64 1], A, resA2 rfl (rv_cell a42 sz42 rfl (by repeat (first | with_reducible exact has_here | with_reducible exact has_pt | apply has_left)) (by show 5 ≤ 5; decide) rfl) (rv_tmp rfl), Dr.sat (by repeat (first | with_reducible exact dr_refl | apply dr_keep | apply dr_drop)), rfl, rfl⟩
  · exfalso; simp at h
theorem ReadZ_c {A : SP} {v : Value} (h0 : NoD A v := by assumption) :
    Fn Tryz.prog 16 #[v] (A) (fun r B => r = .tuple #[.agg (ints [0, 0, 0, 0, 0]).toArray, .int .i64 1] ∧ A = B) := by
  refine fn_enterW (args := [v]) Tryz.func16 rfl Tryz.ntmps16 (by simp) ?_; refine sr ?_; refine tl_x rfl (o_alloc z42 rfl) ?_; rintro _ _ ⟨b2, rfl, rfl⟩; refine tla ?_; refine nq ?_; refine tc_seq ?_; refine sr ?_; refine tlm ?_; refine tl_c rfl (o_call bd72 rfl (stateZ_c h0.left)) ?_; rintro _ _ ⟨rfl, rfl⟩; refine tla ?_; refine nq ?_; refine sr ?_; refine tlm ?_; refine tv (o_nei rfl rfl) ?_; refine nq ?_; refine tc_cond rfl (fun h => ?_) (fun h => ?_)
  · try simp only [lv1, lv2, lv3, lv4, lv5, lv6, Bool.not_true, Bool.not_false] at h
    refine sr ?_; refine tv (o_bS (l := ints [0, 0, 0, 0, 0]) pv_nil Tryz.underlying42 z42 (pl42 Tryz.underlying42) rfl) ?_; refine tlm ?_; refine tl_u rfl (o_stUN (l' := ints [0, 0, 0, 0, 0]) rfl (by repeat (first | with_reducible exact upd_here | with_reducible exact upd_pt | apply upd_left)) sz42 rfl rfl rfl (by show 5 ≤ 5; decide) rfl) ?_; refine tla ?_; refine nq ?_; refine tc_ret ?_; refine q_then_r ?_; exact ⟨.tuple #[.agg (ints [0, 0, 0, 0, 0]).toArray, .int .i64 1], A, resA2 rfl (rv_cell a42 sz42 rfl (by repeat (first | with_reducible exact has_here | with_reducible exact has_pt | apply has_left)) (by show 5 ≤ 5; decide) rfl) (rv_tmp rfl), Dr.sat (by repeat (first | with_reducible exact dr_refl | apply dr_keep | apply dr_drop)), rfl, rfl⟩
  · exfalso; simp at h
theorem RootZ_c {A : SP} {v : Value} (h0 : NoD A v := by assumption) :
    Fn Tryz.prog 17 #[v] (A) (fun r B => r = .tuple #[.int .u64 0, .int .i64 1] ∧ A = B) := by
  refine fn_enterW (args := [v]) Tryz.func17 rfl Tryz.ntmps17 (by simp) ?_; refine sr ?_; refine tla ?_; refine tla ?_; refine nq ?_; refine tc_seq ?_; refine sr ?_; refine tlm ?_; refine tl_c rfl (o_call bd16 rfl (ReadZ_c)) ?_; rintro _ _ ⟨rfl, rfl⟩; refine tlm ?_; refine tv (o_extract rfl rfl) ?_; refine tv (o_extract rfl rfl) ?_; refine tl_x rfl (o_alloc z42 rfl) ?_; rintro _ _ ⟨b4, rfl, rfl⟩; refine tl_u rfl (o_stUN (l' := ints [0, 0, 0, 0, 0]) rfl (by repeat (first | with_reducible exact upd_here | with_reducible exact upd_pt | apply upd_left)) sz42 rfl rfl rfl (by show 5 ≤ 5; decide) rfl) ?_; refine tla ?_; refine nq ?_; refine sr ?_; refine tlm ?_; refine tv (o_nei rfl rfl) ?_; refine nq ?_; refine tc_cond rfl (fun h => ?_) (fun h => ?_)
  · try simp only [lv1, lv2, lv3, lv4, lv5, lv6, Bool.not_true, Bool.not_false] at h
    refine sr ?_; refine tlm ?_; refine tla ?_; refine tla ?_; refine nq ?_; refine tc_ret ?_; refine q_then_r ?_; exact ⟨.tuple #[.int .u64 0, .int .i64 1], A, res2 rfl rfl rfl, Dr.sat (by repeat (first | with_reducible exact dr_refl | apply dr_keep | apply dr_drop)), rfl, rfl⟩
  · exfalso; simp at h
theorem pimg {F : SP} {sz tn : Int} {fl : Nat} {rt : Bool} (hs : -9223372036854775808 ≤ sz ∧ sz ≤ 9223372036854775807) (ht : -9223372036854775808 ≤ tn ∧ tn ≤ 9223372036854775807) (hf : fl < 256) : PImg F [.int .i64 sz, .int .u8 ((fl : Nat) : Int), .slice none 0 0, .bool rt, .int .i64 tn] ⟨sz, fl, none, 0, [], rt, tn⟩ :=
  ⟨rfl, rs_nil, fun x h => by simp at h, Nat.le_refl _, Nat.zero_le _, ⟨by simp only []; omega, by simp only []; omega⟩, ht, hs⟩
theorem i64_int {n : Int} (h : -9223372036854775808 ≤ n ∧ n ≤ 9223372036854775807) : PInt .i64 [.int .i64 n] n := ⟨rfl, by simp [Lit.wf, IntKind.bits, IntKind.signed, IntKind.min, IntKind.max]; omega⟩
theorem SFi {F : SP} {sz tn af : Int} {fl m kc : Nat} {rt : Bool} {ka : Option Addr} {kp : List Int} (hr : Rs F ka (ints kp)) (hm : kp.length = m) (hk : ∀ k ∈ kp, -9223372036854775808 ≤ k ∧ k ≤ 9223372036854775807) (hl : m ≤ kc ∧ m ≤ 1000) (hs : -9223372036854775808 ≤ sz ∧ sz ≤ 9223372036854775807) (ht : -9223372036854775808 ≤ tn ∧ tn ≤ 9223372036854775807) (hf : fl < 256) (ha : -9223372036854775808 ≤ af ∧ af ≤ 9223372036854775807) :
    Fn Tryz.prog 12 #[.agg [Value.int .i64 sz, .int .u8 ((fl : Nat) : Int), .slice none 0 0, .bool rt, .int .i64 tn].toArray, .int .i64 af, .slice ka m kc] F (fun r B => r = .bool true ∧ F = B) := by
  subst hm
  exact (SuperFormats_L F _ _ (pimg hs ht hf) _ _ (i64_int ha) _ kp ⟨ka, kc, rfl, hl.1, by omega, hr, hk⟩).mono fun _ _ h => ⟨h.1, h.2.symm⟩
theorem SLi {F : SP} {sz tn af : Int} {fl m kc : Nat} {rt : Bool} {ka : Option Addr} {kp : List Int} (hr : Rs F ka (ints kp)) (hm : kp.length = m) (hk : ∀ k ∈ kp, -9223372036854775808 ≤ k ∧ k ≤ 9223372036854775807) (hl : m ≤ kc ∧ m ≤ 1000) (hs : -9223372036854775808 ≤ sz ∧ sz ≤ 9223372036854775807) (ht : -9223372036854775808 ≤ tn ∧ tn ≤ 9223372036854775807) (hf : fl < 256) (ha : -9223372036854775808 ≤ af ∧ af ≤ 9223372036854775807) :
    Fn Tryz.prog 13 #[.agg [Value.int .i64 sz, .int .u8 ((fl : Nat) : Int), .slice none 0 0, .bool rt, .int .i64 tn].toArray, .int .i64 af, .slice ka m kc] F (fun r B => r = .bool true ∧ F = B) := by
  subst hm
  exact (SuperLost_L F _ _ (pimg hs ht hf) _ _ (i64_int ha) _ kp ⟨ka, kc, rfl, hl.1, by omega, hr, hk⟩).mono fun _ _ h => ⟨h.1, h.2.symm⟩
theorem SRi {F : SP} {sz tn : Int} {fl : Nat} {rt : Bool} (hs : -9223372036854775808 ≤ sz ∧ sz ≤ 9223372036854775807) (ht : -9223372036854775808 ≤ tn ∧ tn ≤ 9223372036854775807) (hf : fl < 256) :
    Fn Tryz.prog 14 #[.agg [Value.int .i64 sz, .int .u8 ((fl : Nat) : Int), .slice none 0 0, .bool rt, .int .i64 tn].toArray] F (fun r B => r = .bool true ∧ F = B) :=
  (SuperReads_L F _ _ (pimg hs ht hf)).mono fun _ _ h => ⟨h.1, h.2.symm⟩
theorem SPi {F : SP} {n s0 s1 s2 s3 s4 : Int} : Fn Tryz.prog 11 #[.int .i64 n, .agg (ints [s0, s1, s2, s3, s4]).toArray] F (fun r B => r = .bool true ∧ F = B) := SuperPlansW_f F n s0 s1 s2 s3 s4
theorem SBi {F : SP} {n k : Int} (hn : -9223372036854775808 ≤ n ∧ n ≤ 9223372036854775807) (hk : -9223372036854775808 ≤ k ∧ k ≤ 9223372036854775807) : Fn Tryz.prog 18 #[.int .i64 n, .int .i64 k] F (fun r B => r = .bool true ∧ F = B) :=
  (SuperBits_L F _ _ (i64_int hn) _ _ (i64_int hk)).mono fun _ _ h => ⟨h.1, h.2.symm⟩
set_option maxRecDepth 20000 in
set_option maxHeartbeats 4000000 in
theorem SuperKnown_f (A : SP) :
    Fn Tryz.prog 4 #[] (A) (fun r B => r = .bool true ∧ B = A) := by
  refine fn_enterW (args := []) Tryz.func4 rfl Tryz.ntmps4 (by simp) ?_; refine sr ?_; refine tla ?_; refine nq ?_; refine sr ?_; refine tl_x rfl (o_buildSliceL (k := 1) (vs := ints [36992, 37056, 37000, 37024, 37248, 36928, 36993, 36991, 4194304, 4194368, -64, 0, 64, 9223372036854775807, -9223372036854775807, 4194240]) (l := ints [36992, 37056, 37000, 37024, 37248, 36928, 36993, 36991, 4194304, 4194368, -64, 0, 64, 9223372036854775807, -9223372036854775807, 4194240]) Tryz.underlying34 sz3 z3 rfl rfl (by decide) (by decide) (by intro v hv; have := List.all_eq_true.1 (ints_all [36992, 37056, 37000, 37024, 37248, 36928, 36993, 36991, 4194304, 4194368, -64, 0, 64, 9223372036854775807, -9223372036854775807, 4194240]) v hv; cases v <;> first | (simp [oneC] at this; done) | rfl) rfl) ?_; rintro _ _ ⟨b13, rfl, rfl⟩; refine tla ?_; refine nq ?_; refine tc_seq ?_; refine sr ?_; refine tla ?_; refine nq ?_; refine tc_block ?_; refine tc_loop (fun kk ρ BB => ∃ (i : Nat), (i ≤ 16) ∧ kk = 16 - i ∧ ρ 2 = .int .i64 (i : Nat) ∧ ρ 1 = .slice (some ⟨b13, 0, none⟩) 16 16 ∧ BB = A * pt b13 (cl (ints [36992, 37056, 37000, 37024, 37248, 36928, 36993, 36991, 4194304, 4194368, -64, 0, 64, 9223372036854775807, -9223372036854775807, 4194240]) 3)) (m := 16 - (0)) ?_ ?_
  · exact ⟨0, by omega, rfl, rfl, rfl, rfl⟩
  · intro k ρ B hI
    obtain ⟨i, hp0, hkk1, hE2, hE1, rfl⟩ := hI
    refine tc_env (d := 2) hE2 ?_; refine tc_env (d := 1) hE1 ?_
    clear hE2 hE1
    refine tc_seq ?_; refine sr ?_; refine tlm ?_; refine tlm ?_; refine tv (o_len Tryz.underlying34 rfl) ?_; refine tv (o_lss rfl rfl) ?_; refine nq ?_; refine tc_cond rfl (fun h => ?_) (fun h => ?_)
    · have hi : i < 16 := by simp at h; omega
      obtain ⟨z, hz⟩ : ∃ z, ([36992, 37056, 37000, 37024, 37248, 36928, 36993, 36991, 4194304, 4194368, -64, 0, 64, 9223372036854775807, -9223372036854775807, 4194240] : List Int)[i]? = some z := ⟨_, List.getElem?_eq_getElem (show i < ([36992, 37056, 37000, 37024, 37248, 36928, 36993, 36991, 4194304, 4194368, -64, 0, 64, 9223372036854775807, -9223372036854775807, 4194240] : List Int).length from hi)⟩
      have g1 : (ints [36992, 37056, 37000, 37024, 37248, 36928, 36993, 36991, 4194304, 4194368, -64, 0, 64, 9223372036854775807, -9223372036854775807, 4194240])[i]? = some (.int .i64 z) := by unfold ints; rw [List.getElem?_map, hz]; rfl
      refine tc_skip ?_; refine q_then_n ?_; refine tc_seq ?_; refine tc_block ?_; refine tc_seq ?_; refine tc_regq mo (by kernel_rfl) ?_; refine ql_v rfl (o_move (by conv => lhs; whnf)) ?_; refine ql_v rfl (o_move (by conv => lhs; whnf)) ?_; refine ql_v rfl (o_ixP1 (a := some ⟨b13, 0, none⟩) Tryz.underlying34 sz3 rfl rfl (by omega) nn_some) ?_; refine ql_v rfl (o_ldP (a := some ⟨b13, 0, none⟩) p3 rfl (by repeat (first | with_reducible exact rs_pt0 | apply Rs.left)) g1) ?_; refine ql_v rfl (o_move (by conv => lhs; whnf)) ?_; refine ql_v rfl (o_move (by conv => lhs; whnf)) ?_; refine ql_v rfl (o_ixP1 (a := some ⟨b13, 0, none⟩) Tryz.underlying34 sz3 rfl rfl (by omega) nn_some) ?_; refine ql_v rfl (o_ldP (a := some ⟨b13, 0, none⟩) p3 rfl (by repeat (first | with_reducible exact rs_pt0 | apply Rs.left)) g1) ?_; refine ql_v rfl (o_bS (l := ints [z, 128, 32768, 32896, 16]) (pv_cons (by conv => lhs; whnf) (pv_cons (by conv => lhs; whnf) (pv_cons (by conv => lhs; whnf) (pv_cons (by conv => lhs; whnf) (pv_cons (by conv => lhs; whnf) pv_nil))))) Tryz.underlying42 z42 (pl42 Tryz.underlying42) rfl) ?_; refine ql_c rfl (fun w => exec_call bd11 rfl) (SPi (n := z) (s0 := z) (s1 := 128) (s2 := 32768) (s3 := 32896) (s4 := 16)) ?_; refine ql_v rfl (o_not rfl) ?_; refine ql_nil ?_; refine q_then_n ?_; refine tc_cond rfl (fun h => ?_) (fun h => ?_)
      · exfalso; simp at h
      · try simp only [lv1, lv2, lv3, lv4, lv5, lv6, Bool.not_true, Bool.not_false] at h
        refine tc_skip ?_; refine q_block_n (q_then_n ?_); refine tc_reg ?_; refine tlm ?_; refine tv (by first | exact o_addI rfl rfl (by omega) | exact o_add rfl rfl) ?_; refine tla ?_; refine nq ?_; exact ⟨_, by omega, i + 1, by omega, rfl, rfl, rfl, rfl⟩
    · try simp only [lv1, lv2, lv3, lv4, lv5, lv6, Bool.not_true, Bool.not_false] at h
      refine tc_exit ?_; refine q_then_e (q_then_e (q_block_x (q_then_n ?_))); refine tc_seq ?_; refine tc_seq ?_; refine tc_pre (A' := A) (Dr.sat (by repeat (first | with_reducible exact dr_refl | apply dr_keep | apply dr_drop))) ?_; refine tc_reg ?_; refine tla ?_; refine nq ?_; refine tc_block ?_; refine tc_loop (fun kk ρ BB => ∃ (i : Nat), (i ≤ 42) ∧ kk = 42 - i ∧ ρ 3 = .int .i64 (i : Nat) ∧ BB = A) (m := 42 - (0)) ?_ ?_
      · exact ⟨0, by omega, rfl, rfl, rfl⟩
      · intro k ρ B hI
        obtain ⟨i, hp0, hkk2, hE3, hBA⟩ := hI
        obtain rfl := hBA.symm
        refine tc_env (d := 3) hE3 ?_
        clear hE3
        refine tc_seq ?_; refine sr ?_; refine tlm ?_; refine tv (o_lss rfl rfl) ?_; refine nq ?_; refine tc_cond rfl (fun h => ?_) (fun h => ?_)
        · have hi : i < 42 := by simp at h; omega
          refine tc_skip ?_; refine q_then_n ?_; refine tc_seq ?_; refine tc_block ?_; refine sr ?_; refine tv (o_bS (l := [.int .i64 (36992), .int .u8 ((255 : Nat) : Int), .slice none 0 0, .bool false, .int .i64 (0)]) (pv_cons (by conv => lhs; whnf) (pv_cons (by conv => lhs; whnf) pv_nil)) Tryz.underlying45 z45 (pl45 Tryz.underlying45) rfl) ?_; refine tlm ?_; refine tlm ?_; refine tv (o_remN (b := 3) rfl rfl (by decide)) ?_; refine tlm ?_; refine tv (o_remN (b := 2) rfl rfl (by decide)) ?_; refine tlm ?_; refine tv (o_remN (b := 5) rfl rfl (by decide)) ?_; refine tl_x rfl (o_buildSliceL (k := 1) (vs := ints [((i % 3 : Nat) : Int), ((i % 2 : Nat) : Int), ((i % 5 : Nat) : Int), 1]) (l := ints [((i % 3 : Nat) : Int), ((i % 2 : Nat) : Int), ((i % 5 : Nat) : Int), 1]) Tryz.underlying34 sz3 z3 rfl rfl (by decide) (by decide) (by intro v hv; have := List.all_eq_true.1 (ints_all [((i % 3 : Nat) : Int), ((i % 2 : Nat) : Int), ((i % 5 : Nat) : Int), 1]) v hv; cases v <;> first | (simp [oneC] at this; done) | rfl) rfl) ?_; rintro _ _ ⟨b43, rfl, rfl⟩; refine tl_c rfl (o_call bd12 rfl (SFi (kp := [((i % 3 : Nat) : Int), ((i % 2 : Nat) : Int), ((i % 5 : Nat) : Int), 1]) (hk := by intro k hk; simp only [List.mem_cons, List.not_mem_nil, or_false] at hk; omega) (fl := 255) (hr := (by repeat (first | with_reducible exact rs_pt0 | apply Rs.left))) (hm := rfl) (hl := by decide) (hs := by decide) (ht := by decide) (hf := by decide) (ha := by omega))) ?_
          rintro _ _ ⟨rfl, rfl⟩; refine tv (o_not rfl) ?_; refine tlm ?_; refine tl_bool (d := 46) rfl (fun h => ?_) (fun h => ?_)
          · exfalso; simp at h
          · try simp only [lv1, lv2, lv3, lv4, lv5, lv6, Bool.not_true, Bool.not_false] at h
            refine tv (o_bS (l := [.int .i64 (37056), .int .u8 ((7 : Nat) : Int), .slice none 0 0, .bool true, .int .i64 (0)]) (pv_cons (by conv => lhs; whnf) (pv_cons (by conv => lhs; whnf) (pv_cons (by conv => lhs; whnf) pv_nil))) Tryz.underlying45 z45 (pl45 Tryz.underlying45) rfl) ?_; refine tlm ?_; refine tlm ?_; refine tv (o_quoN (b := 2) rfl rfl (by omega)) ?_; refine tlm ?_; refine tv (o_quoN (b := 3) rfl rfl (by omega)) ?_; refine tlm ?_; refine tv (o_quoN (b := 5) rfl rfl (by omega)) ?_; refine tl_x rfl (o_buildSliceL (k := 1) (vs := ints [((i / 2 : Nat) : Int), ((i / 3 : Nat) : Int), ((i / 5 : Nat) : Int)]) (l := ints [((i / 2 : Nat) : Int), ((i / 3 : Nat) : Int), ((i / 5 : Nat) : Int)]) Tryz.underlying34 sz3 z3 rfl rfl (by decide) (by decide) (by intro v hv; have := List.all_eq_true.1 (ints_all [((i / 2 : Nat) : Int), ((i / 3 : Nat) : Int), ((i / 5 : Nat) : Int)]) v hv; cases v <;> first | (simp [oneC] at this; done) | rfl) rfl) ?_; rintro _ _ ⟨b55, rfl, rfl⟩; refine tl_c rfl (o_call bd13 rfl (SLi (kp := [((i / 2 : Nat) : Int), ((i / 3 : Nat) : Int), ((i / 5 : Nat) : Int)]) (hk := by intro k hk; simp only [List.mem_cons, List.not_mem_nil, or_false] at hk; omega) (fl := 7) (hr := (by repeat (first | with_reducible exact rs_pt0 | apply Rs.left))) (hm := rfl) (hl := by decide) (hs := by decide) (ht := by decide) (hf := by decide) (ha := by omega))) ?_
            rintro _ _ ⟨rfl, rfl⟩; refine tv (o_not rfl) ?_; refine tv (o_pick_f rfl (by conv => lhs; whnf)) ?_; refine nq ?_; refine tc_cond rfl (fun h => ?_) (fun h => ?_)
            · exfalso; simp at h
            · try simp only [lv1, lv2, lv3, lv4, lv5, lv6, Bool.not_true, Bool.not_false] at h
              refine tc_skip ?_; refine q_block_n (q_then_n ?_); refine tc_pre (A' := A) (Dr.sat (by repeat (first | with_reducible exact dr_refl | apply dr_keep | apply dr_drop))) ?_; refine tc_reg ?_; refine tlm ?_; refine tv (by first | exact o_addI rfl rfl (by omega) | exact o_add rfl rfl) ?_; refine tla ?_; refine nq ?_; exact ⟨_, by omega, i + 1, by omega, rfl, rfl, rfl⟩
        · try simp only [lv1, lv2, lv3, lv4, lv5, lv6, Bool.not_true, Bool.not_false] at h
          refine tc_exit ?_; refine q_then_e (q_then_e (q_block_x (q_then_n ?_))); refine tc_seq ?_; refine sr ?_; refine tla ?_; refine nq ?_; refine tc_block ?_; refine tc_loop (fun kk ρ BB => ∃ (i : Nat), (i ≤ 20) ∧ kk = 20 - i ∧ ρ 4 = .int .i64 (i : Nat) ∧ BB = A) (m := 20 - (0)) ?_ ?_
          · exact ⟨0, by omega, rfl, rfl, rfl⟩
          · intro k ρ B hI
            obtain ⟨i, hp0, hkk3, hE4, hBA⟩ := hI
            obtain rfl := hBA.symm
            refine tc_env (d := 4) hE4 ?_
            clear hE4
            refine tc_seq ?_; refine sr ?_; refine tlm ?_; refine tv (o_lss rfl rfl) ?_; refine nq ?_; refine tc_cond rfl (fun h => ?_) (fun h => ?_)
            · have hi : i < 20 := by simp at h; omega
              refine tc_skip ?_; refine q_then_n ?_; refine tc_seq ?_; refine tc_block ?_; refine sr ?_; refine tlm ?_; refine tv (o_bS (l := [.int .i64 (36992), .int .u8 ((3 : Nat) : Int), .slice none 0 0, .bool true, .int .i64 ((i : Nat))]) (pv_cons (by conv => lhs; whnf) (pv_cons (by conv => lhs; whnf) (pv_cons (by conv => lhs; whnf) (pv_cons (by conv => lhs; whnf) pv_nil)))) Tryz.underlying45 z45 (pl45 Tryz.underlying45) rfl) ?_; refine tl_c rfl (o_call bd14 rfl (SRi (fl := 3) (hs := by decide) (ht := by omega) (hf := by decide))) ?_; rintro _ _ ⟨rfl, rfl⟩; refine tv (o_not rfl) ?_; refine tlm ?_; refine tl_bool (d := 67) rfl (fun h => ?_) (fun h => ?_)
              · exfalso; simp at h
              · try simp only [lv1, lv2, lv3, lv4, lv5, lv6, Bool.not_true, Bool.not_false] at h
                refine tlm ?_; refine tv (by first | exact o_mulI rfl rfl (by omega) | exact o_mul rfl rfl) ?_; refine tl_env (d := 69) (v := .int .i64 ((64 * i : Nat) : Int)) (rfl) ?_; refine tv (o_bS (l := [.int .i64 (((64 * i : Nat) : Int)), .int .u8 ((0 : Nat) : Int), .slice none 0 0, .bool false, .int .i64 (0)]) (pv_cons (by conv => lhs; whnf) pv_nil) Tryz.underlying45 z45 (pl45 Tryz.underlying45) rfl) ?_; refine tl_c rfl (o_call bd14 rfl (SRi (fl := 0) (hs := by omega) (ht := by decide) (hf := by decide))) ?_; rintro _ _ ⟨rfl, rfl⟩; refine tv (o_not rfl) ?_; refine tv (o_pick_f rfl (by conv => lhs; whnf)) ?_; refine tlm ?_; refine tl_bool (d := 74) rfl (fun h => ?_) (fun h => ?_)
                · exfalso; simp at h
                · try simp only [lv1, lv2, lv3, lv4, lv5, lv6, Bool.not_true, Bool.not_false] at h
                  refine tlm ?_; refine tv (by first | exact o_mulI rfl rfl (by omega) | exact o_mul rfl rfl) ?_; refine tl_env (d := 76) (v := .int .i64 ((64 * i : Nat) : Int)) (rfl) ?_; refine tv (o_bS (l := [.int .i64 (((64 * i : Nat) : Int)), .int .u8 ((0 : Nat) : Int), .slice none 0 0, .bool true, .int .i64 (0)]) (pv_cons (by conv => lhs; whnf) (pv_cons (by conv => lhs; whnf) pv_nil)) Tryz.underlying45 z45 (pl45 Tryz.underlying45) rfl) ?_; refine tlm ?_; refine tl_c rfl (o_call bd12 rfl (SFi (kp := []) (hk := by intro k hk; simp at hk) (fl := 0) (hr := rs_nil) (hm := rfl) (hl := by decide) (hs := by omega) (ht := by decide) (hf := by decide) (ha := by omega))) ?_; rintro _ _ ⟨rfl, rfl⟩; refine tv (o_not rfl) ?_; refine tv (o_pick_f rfl (by conv => lhs; whnf)) ?_; refine nq ?_; refine tc_cond rfl (fun h => ?_) (fun h => ?_)
                  · exfalso; simp at h
                  · try simp only [lv1, lv2, lv3, lv4, lv5, lv6, Bool.not_true, Bool.not_false] at h
                    refine tc_skip ?_; refine q_block_n (q_then_n ?_); refine tc_reg ?_; refine tlm ?_; refine tv (by first | exact o_addI rfl rfl (by omega) | exact o_add rfl rfl) ?_; refine tla ?_; refine nq ?_; exact ⟨_, by omega, i + 1, by omega, rfl, rfl, rfl⟩
            · try simp only [lv1, lv2, lv3, lv4, lv5, lv6, Bool.not_true, Bool.not_false] at h
              refine tc_exit ?_; refine q_then_e (q_then_e (q_block_x (q_then_n ?_))); refine sr ?_; refine tv (o_bS (l := [.slice none 0 0, .int .i64 0, .slice none 0 0, .int .i64 0, .bool false]) pv_nil Tryz.underlying50 z50 (pl50 Tryz.underlying50) rfl) ?_; refine tl_x rfl (o_box rfl rfl) ?_; rintro _ _ ⟨b83, rfl, rfl⟩; refine tl_x rfl (o_buildSliceL (k := 1) (vs := [.pointer none, .pointer (some ⟨b83, 0, none⟩)]) (l := [.pointer none, .pointer (some ⟨b83, 0, none⟩)]) Tryz.underlying51 sz24 z24 rfl rfl (by decide) (by decide) (by intro v hv; simp only [List.mem_cons, List.not_mem_nil, or_false] at hv; rcases hv with rfl | rfl <;> rfl) rfl) ?_; rintro _ _ ⟨b84, rfl, rfl⟩; refine tla ?_; refine nq ?_; refine tc_seq ?_; refine sr ?_; refine tla ?_; refine nq ?_; refine tc_block ?_; refine tc_loop (fun kk ρ BB => ∃ (i : Nat), (i ≤ 2) ∧ kk = 2 - i ∧ ρ 6 = .int .i64 (i : Nat) ∧ ρ 5 = .slice (some ⟨b84, 0, none⟩) 2 2 ∧ BB = A * pt b83 (cl [.slice none 0 0, .int .i64 0, .slice none 0 0, .int .i64 0, .bool false] 50) * pt b84 (cl [.pointer none, .pointer (some ⟨b83, 0, none⟩)] 24)) (m := 2 - (0)) ?_ ?_
              · exact ⟨0, by omega, rfl, rfl, rfl, rfl⟩
              · intro k ρ B hI
                obtain ⟨i, hp0, hkk4, hE6, hE5, rfl⟩ := hI
                refine tc_env (d := 6) hE6 ?_; refine tc_env (d := 5) hE5 ?_
                clear hE6 hE5
                refine tc_seq ?_; refine sr ?_; refine tlm ?_; refine tlm ?_; refine tv (o_len Tryz.underlying51 rfl) ?_; refine tv (o_lss rfl rfl) ?_; refine nq ?_; refine tc_cond rfl (fun h => ?_) (fun h => ?_)
                · have hi : i < 2 := by simp at h; omega
                  obtain ⟨v, g1, hv⟩ : ∃ v, ([.pointer none, .pointer (some ⟨b83, 0, none⟩)] : List Value)[i]? = some v ∧ NoD (A * pt b83 (cl [.slice none 0 0, .int .i64 0, .slice none 0 0, .int .i64 0, .bool false] 50) * pt b84 (cl [.pointer none, .pointer (some ⟨b83, 0, none⟩)] 24)) v := by
                    match i, hi with
                    | 0, _ => exact ⟨_, rfl, .inl rfl⟩
                    | 1, _ => exact ⟨_, rfl, .inr ⟨b83, rfl, cell_of_has (l := [.slice none 0 0, .int .i64 0, .slice none 0 0, .int .i64 0, .bool false]) (E := 50) (by repeat (first | with_reducible exact has_here | apply has_left)) rfl⟩⟩
                  refine tc_skip ?_; refine q_then_n ?_; refine tc_seq ?_; refine tc_block ?_; refine sr ?_; refine tlm ?_; refine tlm ?_; refine tv (o_ixP1 (a := some ⟨b84, 0, none⟩) Tryz.underlying51 sz24 rfl rfl (by omega) nn_some) ?_; refine tv (o_ldP (a := some ⟨b84, 0, none⟩) p24 rfl (by repeat (first | with_reducible exact rs_pt0 | apply Rs.left)) g1) ?_; refine tl_c rfl (o_call bd15 rfl (FormatZ_c hv)) ?_; rintro _ _ ⟨rfl, rfl⟩; refine tlm ?_; refine tv (o_extract rfl rfl) ?_; refine tv (o_extract rfl rfl) ?_; refine tl_x rfl (o_alloc z42 rfl) ?_; rintro _ _ ⟨b7, rfl, rfl⟩; refine tl_u rfl (o_stUN (l' := ints [0, 0, 0, 0, 0]) rfl (by repeat (first | with_reducible exact upd_here | with_reducible exact upd_pt | apply upd_left)) sz42 rfl rfl rfl (by show 5 ≤ 5; decide) rfl) ?_; refine tla ?_; refine nq ?_; refine sr ?_; refine tlm ?_; refine tlm ?_; refine tv (o_ixP1 (a := some ⟨b84, 0, none⟩) Tryz.underlying51 sz24 rfl rfl (by omega) nn_some) ?_; refine tv (o_ldP (a := some ⟨b84, 0, none⟩) p24 rfl (by repeat (first | with_reducible exact rs_pt0 | apply Rs.left)) g1) ?_
                  refine tl_c rfl (o_call bd16 rfl (ReadZ_c hv.left)) ?_; rintro _ _ ⟨rfl, rfl⟩; refine tlm ?_; refine tv (o_extract rfl rfl) ?_; refine tv (o_extract rfl rfl) ?_; refine tl_x rfl (o_alloc z42 rfl) ?_; rintro _ _ ⟨b9, rfl, rfl⟩; refine tl_u rfl (o_stUN (l' := ints [0, 0, 0, 0, 0]) rfl (by repeat (first | with_reducible exact upd_here | with_reducible exact upd_pt | apply upd_left)) sz42 rfl rfl rfl (by show 5 ≤ 5; decide) rfl) ?_; refine tla ?_; refine nq ?_; refine sr ?_; refine tlm ?_; refine tlm ?_; refine tv (o_ixP1 (a := some ⟨b84, 0, none⟩) Tryz.underlying51 sz24 rfl rfl (by omega) nn_some) ?_; refine tv (o_ldP (a := some ⟨b84, 0, none⟩) p24 rfl (by repeat (first | with_reducible exact rs_pt0 | apply Rs.left)) g1) ?_; refine tl_c rfl (o_call bd17 rfl (RootZ_c hv.left.left)) ?_; rintro _ _ ⟨rfl, rfl⟩; refine tlm ?_; refine tv (o_extract rfl rfl) ?_; refine tv (o_extract rfl rfl) ?_; refine tla ?_; refine tla ?_; refine nq ?_; refine sr ?_
                  refine tlm ?_; refine tv (o_nei rfl rfl) ?_; refine tlm ?_; refine tl_bool (d := 117) rfl (fun h => ?_) (fun h => ?_)
                  · exfalso; simp at h
                  · try simp only [lv1, lv2, lv3, lv4, lv5, lv6, Bool.not_true, Bool.not_false] at h
                    refine tlm ?_; refine tv (o_nei rfl rfl) ?_; refine tv (o_pick_f rfl (by conv => lhs; whnf)) ?_; refine tlm ?_; refine tl_bool (d := 121) rfl (fun h => ?_) (fun h => ?_)
                    · exfalso; simp at h
                    · try simp only [lv1, lv2, lv3, lv4, lv5, lv6, Bool.not_true, Bool.not_false] at h
                      refine tlm ?_; refine tv (o_nei rfl rfl) ?_; refine tv (o_pick_f rfl (by conv => lhs; whnf)) ?_; refine tlm ?_; refine tl_bool (d := 125) rfl (fun h => ?_) (fun h => ?_)
                      · exfalso; simp at h
                      · try simp only [lv1, lv2, lv3, lv4, lv5, lv6, Bool.not_true, Bool.not_false] at h
                        refine tlm ?_; refine tv (o_nei rfl rfl) ?_; refine tv (o_pick_f rfl (by conv => lhs; whnf)) ?_; refine tlm ?_; refine tl_bool (d := 129) rfl (fun h => ?_) (fun h => ?_)
                        · exfalso; simp at h
                        · try simp only [lv1, lv2, lv3, lv4, lv5, lv6, Bool.not_true, Bool.not_false] at h
                          refine tv (o_loadN (vs := ints [0, 0, 0, 0, 0]) a42 sz42 rfl (by repeat (first | with_reducible exact has_here | with_reducible exact has_pt | apply has_left)) (by show 5 ≤ 5; decide) rfl) ?_; refine tv (o_loadN (vs := ints [0, 0, 0, 0, 0]) a42 sz42 rfl (by repeat (first | with_reducible exact has_here | with_reducible exact has_pt | apply has_left)) (by show 5 ≤ 5; decide) rfl) ?_; refine tv (o_nest (k := 5) (l := [0, 0, 0, 0, 0]) (m := [0, 0, 0, 0, 0]) Tryz.underlying42 (by kernel_rfl) (by kernel_rfl) (by kernel_rfl) rfl rfl rfl rfl) ?_; refine tv (o_pick_f rfl (by conv => lhs; whnf)) ?_; refine tlm ?_; refine tl_bool (d := 134) rfl (fun h => ?_) (fun h => ?_)
                          · exfalso; simp at h
                          · try simp only [lv1, lv2, lv3, lv4, lv5, lv6, Bool.not_true, Bool.not_false] at h
                            refine tv (o_loadN (vs := ints [0, 0, 0, 0, 0]) a42 sz42 rfl (by repeat (first | with_reducible exact has_here | with_reducible exact has_pt | apply has_left)) (by show 5 ≤ 5; decide) rfl) ?_; refine tv (o_bS (l := ints [0, 0, 0, 0, 0]) pv_nil Tryz.underlying42 z42 (pl42 Tryz.underlying42) rfl) ?_; refine tv (o_nest (k := 5) (l := [0, 0, 0, 0, 0]) (m := [0, 0, 0, 0, 0]) Tryz.underlying42 (by kernel_rfl) (by kernel_rfl) (by kernel_rfl) rfl rfl rfl rfl) ?_; refine tv (o_pick_f rfl (by conv => lhs; whnf)) ?_; refine nq ?_; refine tc_cond rfl (fun h => ?_) (fun h => ?_)
                            · exfalso; simp at h
                            · try simp only [lv1, lv2, lv3, lv4, lv5, lv6, Bool.not_true, Bool.not_false] at h
                              refine tc_skip ?_; refine q_block_n (q_then_n ?_); refine tc_pre (A' := A * pt b83 (cl [.slice none 0 0, .int .i64 0, .slice none 0 0, .int .i64 0, .bool false] 50) * pt b84 (cl [.pointer none, .pointer (some ⟨b83, 0, none⟩)] 24)) (Dr.sat (by repeat (first | with_reducible exact dr_refl | apply dr_keep | apply dr_drop))) ?_; refine tc_reg ?_; refine tlm ?_; refine tv (by first | exact o_addI rfl rfl (by omega) | exact o_add rfl rfl) ?_; refine tla ?_; refine nq ?_; exact ⟨_, by omega, i + 1, by omega, rfl, rfl, rfl, rfl⟩
                · try simp only [lv1, lv2, lv3, lv4, lv5, lv6, Bool.not_true, Bool.not_false] at h
                  refine tc_exit ?_; refine q_then_e (q_then_e (q_block_x (q_then_n ?_))); refine sr ?_; refine tlm ?_; refine tl_c rfl (o_call bd18 rfl (SBi (hn := by decide) (hk := by decide))) ?_; rintro _ _ ⟨rfl, rfl⟩; refine tv (o_pick_t rfl (by conv => lhs; whnf)) ?_; refine tlm ?_; refine tl_bool (d := 142) rfl (fun h => ?_) (fun h => ?_)
                  · try simp only [lv1, lv2, lv3, lv4, lv5, lv6, Bool.not_true, Bool.not_false] at h
                    refine tl_c rfl (o_call bd18 rfl (SBi (hn := by decide) (hk := by decide))) ?_; rintro _ _ ⟨rfl, rfl⟩; refine tv (o_pick_t rfl (by conv => lhs; whnf)) ?_; refine tlm ?_; refine tl_bool (d := 145) rfl (fun h => ?_) (fun h => ?_)
                    · try simp only [lv1, lv2, lv3, lv4, lv5, lv6, Bool.not_true, Bool.not_false] at h
                      refine tv (o_bS (l := [.int .i64 (36992), .int .u8 ((0 : Nat) : Int), .slice none 0 0, .bool false, .int .i64 (0)]) (pv_cons (by conv => lhs; whnf) pv_nil) Tryz.underlying45 z45 (pl45 Tryz.underlying45) rfl) ?_; refine tl_x rfl (o_buildSlice1 (v := .int .i64 (-1)) Tryz.underlying34 sz3 z3 rfl rfl) ?_; rintro _ _ ⟨b147, rfl, rfl⟩; refine tl_c rfl (o_call bd13 rfl (SLi (kp := [-1]) (hk := by intro k hk; simp only [List.mem_cons, List.not_mem_nil, or_false] at hk; omega) (fl := 0) (hr := rs_pt0) (hm := rfl) (hl := by decide) (hs := by decide) (ht := by decide) (hf := by decide) (ha := by decide))) ?_; rintro _ _ ⟨rfl, rfl⟩; refine tv (o_pick_t rfl (by conv => lhs; whnf)) ?_; refine tlm ?_; refine tl_bool (d := 150) rfl (fun h => ?_) (fun h => ?_)
                      · try simp only [lv1, lv2, lv3, lv4, lv5, lv6, Bool.not_true, Bool.not_false] at h
                        refine tl_c rfl (o_call bd19 rfl (works_c)) ?_; rintro _ _ ⟨rfl, rfl⟩; refine tv (o_pick_t rfl (by conv => lhs; whnf)) ?_; refine tla ?_; refine nq ?_; refine tc_ret ?_; exact ⟨.bool true, A, res1 rfl rfl, Dr.sat (by repeat (first | with_reducible exact dr_refl | apply dr_keep | apply dr_drop)), rfl, rfl⟩
                      · exfalso; simp at h
                    · exfalso; simp at h
                  · exfalso; simp at h
theorem SuperKnown_L (F : SP) : Fn Tryz.prog 4 #[] F (fun r B => r = .bool true ∧ B = F) := SuperKnown_f F
end Go.Vl
