/- What the row rests on, part 6: a calculus of assertions, walks of functions over it, and plain laws. Conditions: none. -/
import Derived.Deep.QuietTactic
import Derived.BigQuiet
import Derived.WalkKit
import Derived.Test.YtpjjmbmmfelooaaGreatProg
import Derived.OrdersHeld
import Derived.Shelf.SortM.SortNone
import Derived.Shelf.SortM.Plain
import Derived.Ground.SlgmProg
import Derived.Shelf.SlIterI.Nil
import Derived.Ground.GgzProg
import Derived.Maps.RangeRun
import Derived.Laws.BytesArg
import Derived.RangeFuncRecord
import Derived.TacticsIn
import Derived.Deep.Slices
import Derived.OpenShut
import Derived.ChangeArms
import Derived.SizedLaws
import Derived.ChangeSame
import Derived.Test.YtpjjmbmmfelooaaGreatRows
import Derived.Sort.QuietThIn
import Derived.ScopeJumps
import Derived.LaidEqlPtr
import Derived.Lib.Builder
import Derived.Lib.UnsafeStr
import Derived.Laws.Strings
import Derived.Test.YtpjjmbmmfelooaaGreatMg5
set_option linter.unusedVariables false
set_option linter.unusedSimpArgs false
namespace Go.Vl
open Go Go.Proofs
def strW (ts : List ByteArray) : List Value := ts.map .string
theorem strW_len (ts : List ByteArray) : (strW ts).length = ts.length := by simp [strW]
theorem strW_at {ts : List ByteArray} {i : Nat} (h : i < ts.length) : (strW ts)[i]? = some (.string ts[i]) := by unfold strW; rw [List.getElem?_map, List.getElem?_eq_getElem h]; rfl
theorem one_str (w : ByteArray) : ([Value.string w] : List Value).all oneC = true := rfl
theorem one_u32 (x : Int) : ([Value.int .u32 x] : List Value).all oneC = true := rfl
theorem ref_lt {u : Nat → Bool} {c : Nat → List Nat} {ref : Nat} {t l : List Nat} (h : Chn u c ref t l) (hu : ∀ b, u b = true → b < 4294967295) : ref < 4294967296 := by
  cases h with
  | nil => decide
  | cons hu0 _ _ _ _ _ _ => have := hu _ hu0; omega
attribute [local irreducible] crk crL crc Sl pt ro Dev imgS recS readS recsF rdW rdO rkT Parts rvl recordsS runsL adrF kcl xcl kys runA runsF layF ovF TxA adZ WkA SlB blkS conB imF RDev s14 s0 wasL putS whS takeL blsE
set_option maxRecDepth 20000 in
set_option maxHeartbeats 1000000 in
theorem BlobBack_f {F : SP} {aT aD : Option Addr} {nT cT nD cD : Nat} {ts : List ByteArray} {ds : List Int} (hrT : Rs F aT (strW ts)) (hlT : ts.length = nT) (hTb : nT ≤ 140737488351232) (htz : ∀ w ∈ ts, w.size ≤ 9223372036854775807) (hrD : Rs F aD (ints ds)) (hlD : ds.length = nD) (hDb : nD ≤ 140737488351232) :
    Fn Tryz.prog 4 #[.slice aT nT cT, .slice aD nD cD] (F) (fun r B => r = .bool true ∧ B = F) := by
  refine fn_enterW (args := [.slice aT nT cT, .slice aD nD cD]) Tryz.func4 rfl Tryz.ntmps4 (by simp) ?_; refine sr ?_; refine tla ?_; refine nq ?_; refine tc_seq ?_; refine sr ?_; refine tl_c rfl (o_call bd13 rfl (awake14_c)) ?_; rintro _ _ ⟨rfl, rfl⟩; refine tv (o_not rfl) ?_; refine nq ?_; refine tc_cond rfl (fun h => ?_) (fun h => ?_)
  · exfalso; simp at h
  · try simp only [lv1, lv2, lv3, lv4, lv5, lv6, Bool.not_true, Bool.not_false] at h
    refine tc_skip ?_; refine q_then_n ?_; refine sr ?_; refine tl_c rfl (o_call bd14 rfl (plain_c (n := 60))) ?_; rintro _ _ ⟨X, Y, rfl, ⟨hXn, hXb⟩, hok, rfl⟩
    have hbk := wkb0 hXn hXb (by decide)
    have hso := s0_off 60
    refine tlm ?_; refine tv (o_extract rfl rfl) ?_; refine tv (o_extract rfl rfl) ?_; refine tv (o_extract rfl rfl) ?_; refine tla ?_; refine tla ?_; refine tla ?_; refine nq ?_; refine tc_seq ?_; refine sr ?_; refine tlm ?_; refine tv (o_not rfl) ?_; refine nq ?_; refine tc_cond rfl (fun h => ?_) (fun h => ?_)
    · exfalso; simp at h
    · try simp only [lv1, lv2, lv3, lv4, lv5, lv6, Bool.not_true, Bool.not_false] at h
      refine tc_skip ?_; refine q_then_n ?_; refine sr ?_; refine tla ?_; refine nq ?_; refine sr ?_; refine tla ?_; refine nq ?_; refine sr ?_; refine tla ?_; refine nq ?_; refine tc_seq ?_; refine sr ?_; refine tla ?_; refine nq ?_; refine tc_block ?_; refine tc_pre (A' := F * WkA X Y (s0 60) * Sl 1 (.slice none 0 0) 0 (refV []) * Sl 1 (.slice none 0 0) 0 (strV [])) (fun _ _ h => sl_nil (sl_nil (Dr.sat (by repeat (first | with_reducible exact dr_refl | apply dr_keep | apply dr_drop)) _ _ h))) ?_; refine tc_loop (fun kk ρ BB => ∃ (i : Nat) (m : Nat) (E : List E14) (Yi : WkY) (Ti : WkT) (a8 : Option Addr) (c8 : Nat) (a9 : Option Addr) (c9 : Nat), (i ≤ nT ∧ E.length = m ∧ m ≤ i ∧ i ≤ 10 ∧ m ≤ c8 ∧ m ≤ c9) ∧ (WkOk X Yi Ti ((s0 60).ls.length * 64)) ∧ (BBk Ti (conB Ti (s0 60) X.ba) E) ∧ kk = nT - i ∧ ρ 8 = .slice a8 m c8 ∧ ρ 9 = .slice a9 m c9 ∧ ρ 10 = .int .i64 (((blsE E).length : Nat) : Int) ∧ ρ 11 = .int .i64 ((i : Nat) : Int) ∧ ρ 0 = .slice aT nT cT ∧ ρ 1 = .slice aD nD cD ∧ ρ 6 = .pointer (some ⟨X.w, 0, none⟩) ∧ Dr BB (F * WkA X Yi (s0 60) * Sl 1 (.slice a8 m c8) m (refV E) * Sl 1 (.slice a9 m c9) m (strV E))) (m := nT - (0)) ?_ ?_
      · exact ⟨0, 0, [], Y, T014 [], none, 0, none, 0, by exact ⟨by omega, rfl, by omega, by omega, by omega, by omega⟩, hok, bb_nil _, rfl, rfl, rfl, (by rw [blsE_nil]; rfl), rfl, rfl, rfl, rfl, (by repeat (first | with_reducible exact dr_refl | apply dr_keep | apply dr_drop))⟩
      · intro k ρ B hI
        obtain ⟨i, m, E, Yi, Ti, a8, c8, a9, c9, hp0, hp1, hp2, hkk1, hE8, hE9, hE10, hE11, hE0, hE1, hE6, hBA⟩ := hI
        refine tc_pre hBA.sat ?_
        clear hBA
        refine tc_env (d := 8) hE8 ?_; refine tc_env (d := 9) hE9 ?_; refine tc_env (d := 10) hE10 ?_; refine tc_env (d := 11) hE11 ?_; refine tc_env (d := 0) hE0 ?_; refine tc_env (d := 1) hE1 ?_; refine tc_env (d := 6) hE6 ?_
        clear hE8 hE9 hE10 hE11 hE0 hE1 hE6
        refine tc_seq ?_; refine tc_seq ?_; refine tc_cut (fun ρ BB => ∃ (bb : Bool), (bb = decide (i < nT ∧ i < 10)) ∧ ρ 33 = .bool bb ∧ ρ 0 = .slice aT nT cT ∧ ρ 1 = .slice aD nD cD ∧ ρ 6 = .pointer (some ⟨X.w, 0, none⟩) ∧ ρ 8 = .slice a8 m c8 ∧ ρ 9 = .slice a9 m c9 ∧ ρ 10 = .int .i64 (((blsE E).length : Nat) : Int) ∧ ρ 11 = .int .i64 ((i : Nat) : Int) ∧ Dr BB (F * WkA X Yi (s0 60) * Sl 1 (.slice a8 m c8) m (refV E) * Sl 1 (.slice a9 m c9) m (strV E))) ?_ ?_
        · skip
          refine tc_reg ?_; refine tlm ?_; refine tlm ?_; refine tv (o_len Tryz.underlying25 rfl) ?_; refine tv (o_lss rfl rfl) ?_; refine tlm ?_; refine tl_bool (d := 30) rfl (fun h => ?_) (fun h => ?_)
          · try simp only [lv1, lv2, lv3, lv4, lv5, lv6, Bool.not_true, Bool.not_false] at h
            refine tlm ?_; refine tv (o_lss rfl rfl) ?_; refine tv (o_pick_t rfl (by conv => lhs; whnf)) ?_; refine tl_nil ?_; exact ⟨_, by first | exact (decide_eq_true (by omega)).symm | exact (decide_eq_false (by omega)).symm | (rw [decide_eq_decide]; omega), rfl, rfl, rfl, rfl, rfl, rfl, rfl, rfl, (by repeat (first | with_reducible exact dr_refl | apply dr_keep | apply dr_drop))⟩
          · try simp only [lv1, lv2, lv3, lv4, lv5, lv6, Bool.not_true, Bool.not_false] at h
            refine tk ?_; refine tk ?_; refine tv (o_pick_f rfl (by conv => lhs; whnf)) ?_; refine tl_nil ?_; exact ⟨_, by first | exact (decide_eq_true (by omega)).symm | exact (decide_eq_false (by omega)).symm | (rw [decide_eq_decide]; omega), rfl, rfl, rfl, rfl, rfl, rfl, rfl, rfl, (by repeat (first | with_reducible exact dr_refl | apply dr_keep | apply dr_drop))⟩
        · intro ρ B hI
          obtain ⟨bb, hbb0, hE33, hE0, hE1, hE6, hE8, hE9, hE10, hE11, hBA⟩ := hI
          refine q_then_n ?_; refine tc_pre hBA.sat ?_
          clear hBA
          refine tc_env (d := 33) hE33 ?_; refine tc_env (d := 0) hE0 ?_; refine tc_env (d := 1) hE1 ?_; refine tc_env (d := 6) hE6 ?_; refine tc_env (d := 8) hE8 ?_; refine tc_env (d := 9) hE9 ?_; refine tc_env (d := 10) hE10 ?_; refine tc_env (d := 11) hE11 ?_
          clear hE33 hE0 hE1 hE6 hE8 hE9 hE10 hE11
          refine tc_cond rfl (fun h => ?_) (fun h => ?_)
          · obtain ⟨hiT, hi10⟩ : i < nT ∧ i < 10 := of_decide_eq_true (by rw [← hbb0]; exact h)
            obtain ⟨hp0, hEm, hmi, hmi2, hm8, hm9⟩ := hp0
            have hit : i < ts.length := by omega
            obtain ⟨w, hw⟩ : ∃ w, ts[i] = w := ⟨_, rfl⟩
            have hwz := htz w (hw ▸ List.getElem_mem hit)
            have hl60 : ∀ b ∈ blsE E, b < 60 := fun b hb => by rw [← hXn]; exact used_n hp1 (used_of ((hp2.tk b).2 hb))
            have hu60 := nodup_le hp2.nd hl60
            have hnb : nblk w.size ≤ w.size / 248 + 1 := by unfold nblk; split <;> omega
            refine tc_skip ?_; refine q_then_n ?_; refine tc_seq ?_; refine tc_block ?_; refine sr ?_; refine tlm ?_; refine tlm ?_; refine tv (o_ixP1 (a := aT) (j := i) Tryz.underlying25 sz9 rfl rfl (by omega) (nn_rs (xs := strW ts) (by repeat (first | exact hrT | apply Rs.left)) (by rw [strW_len]; omega))) ?_; refine tv (o_ldP (a := aT) (xs := strW ts) p9 rfl (by repeat (first | exact hrT | apply Rs.left)) (strW_at hit)) ?_; refine tl_env (d := 39) (v := .string w) (by show Value.string ts[i] = _; rw [hw]) ?_; refine tv (o_lenS Tryz.underlying9 rfl) ?_; refine tl_c rfl (o_call bd11 rfl (NeedB_c (n := ((w.size : Nat) : Int)))) ?_; rintro _ _ ⟨rfl, rfl⟩; refine tl_env (d := 41) (v := .int .i64 ((nblk w.size : Nat) : Int)) (by show Value.int .i64 ((nblk ((w.size : Nat) : Int).toNat : Nat) : Int) = _; rw [Int.toNat_natCast]) ?_; refine tla ?_; refine nq ?_; refine tc_seq ?_; refine tc_seq ?_; refine tc_cut (fun ρ BB => ∃ (b2 : Bool), (b2 = decide (65536 < w.size ∨ 60 < (blsE E).length + nblk w.size)) ∧ ρ 53 = .bool b2 ∧ ρ 0 = .slice aT nT cT ∧ ρ 1 = .slice aD nD cD ∧ ρ 6 = .pointer (some ⟨X.w, 0, none⟩) ∧ ρ 8 = .slice a8 m c8 ∧ ρ 9 = .slice a9 m c9 ∧ ρ 10 = .int .i64 (((blsE E).length : Nat) : Int) ∧ ρ 11 = .int .i64 ((i : Nat) : Int) ∧ ρ 12 = .int .i64 ((nblk w.size : Nat) : Int) ∧ Dr BB (F * WkA X Yi (s0 60) * Sl 1 (.slice a8 m c8) m (refV E) * Sl 1 (.slice a9 m c9) m (strV E))) ?_ ?_
            · skip
              refine tc_reg ?_; refine tlm ?_; refine tlm ?_; refine tv (o_ixP1 (a := aT) (j := i) Tryz.underlying25 sz9 rfl rfl (by omega) (nn_rs (xs := strW ts) (by repeat (first | exact hrT | apply Rs.left)) (by rw [strW_len]; omega))) ?_; refine tv (o_ldP (a := aT) (xs := strW ts) p9 rfl (by repeat (first | exact hrT | apply Rs.left)) (strW_at hit)) ?_; refine tl_env (d := 45) (v := .string w) (by show Value.string ts[i] = _; rw [hw]) ?_; refine tv (o_lenS Tryz.underlying9 rfl) ?_; refine tv (o_gtr rfl rfl) ?_; refine tlm ?_; refine tl_bool (d := 48) rfl (fun h => ?_) (fun h => ?_)
              · try simp only [lv1, lv2, lv3, lv4, lv5, lv6, Bool.not_true, Bool.not_false] at h
                refine tk ?_; refine tk ?_; refine tk ?_; refine tk ?_; refine tv (o_pick_t rfl (by conv => lhs; whnf)) ?_; refine tl_nil ?_; exact ⟨_, by first | exact (decide_eq_true (by omega)).symm | exact (decide_eq_false (by omega)).symm | (rw [decide_eq_decide]; omega), rfl, rfl, rfl, rfl, rfl, rfl, rfl, rfl, rfl, (by repeat (first | with_reducible exact dr_refl | apply dr_keep | apply dr_drop))⟩
              · try simp only [lv1, lv2, lv3, lv4, lv5, lv6, Bool.not_true, Bool.not_false] at h
                refine tlm ?_; refine tlm ?_; refine tv (o_addI rfl rfl (by omega)) ?_; refine tv (o_gtr rfl rfl) ?_; refine tv (o_pick_f rfl (by conv => lhs; whnf)) ?_; refine tl_nil ?_; exact ⟨_, by first | exact (decide_eq_true (by omega)).symm | exact (decide_eq_false (by omega)).symm | (rw [decide_eq_decide]; omega), rfl, rfl, rfl, rfl, rfl, rfl, rfl, rfl, rfl, (by repeat (first | with_reducible exact dr_refl | apply dr_keep | apply dr_drop))⟩
            · intro ρ B hI
              obtain ⟨b2, hb20, hE53, hE0, hE1, hE6, hE8, hE9, hE10, hE11, hE12, hBA⟩ := hI
              refine q_then_n ?_; refine tc_pre hBA.sat ?_
              clear hBA
              refine tc_env (d := 53) hE53 ?_; refine tc_env (d := 0) hE0 ?_; refine tc_env (d := 1) hE1 ?_; refine tc_env (d := 6) hE6 ?_; refine tc_env (d := 8) hE8 ?_; refine tc_env (d := 9) hE9 ?_; refine tc_env (d := 10) hE10 ?_; refine tc_env (d := 11) hE11 ?_; refine tc_env (d := 12) hE12 ?_
              clear hE53 hE0 hE1 hE6 hE8 hE9 hE10 hE11 hE12
              refine tc_cond rfl (fun h => ?_) (fun h => ?_)
              · have hcl : i + 1 ≤ nT ∧ E.length = m ∧ m ≤ i + 1 ∧ i + 1 ≤ 10 ∧ m ≤ c8 ∧ m ≤ c9 := by omega
                have hcl2 := hp1
                have hcl3 := hp2
                refine tc_exit ?_; refine q_then_e (q_block_x (q_then_n ?_)); refine tc_reg ?_; refine tlm ?_; refine tv (by first | exact o_addI rfl rfl (by omega) | exact o_add rfl rfl) ?_; refine tla ?_; refine nq ?_; exact ⟨_, by omega, i + 1, _, _, _, _, _, _, _, _, hcl, hcl2, hcl3, rfl, rfl, rfl, rfl, rfl, rfl, rfl, rfl, (by repeat (first | with_reducible exact dr_refl | apply dr_keep | apply dr_drop))⟩
              · rw [h] at hb20
                have hb21 := of_decide_eq_false hb20.symm
                have hws : w.size ≤ 65536 := by omega
                have hur : (blsE E).length + nblk w.size ≤ 60 := by omega
                refine tc_skip ?_; refine q_then_n ?_; refine sr ?_; refine tlm ?_; refine tlm ?_; refine tlm ?_; refine tv (o_ixP1 (a := aT) (j := i) Tryz.underlying25 sz9 rfl rfl (by omega) (nn_rs (xs := strW ts) (by repeat (first | exact hrT | apply Rs.left)) (by rw [strW_len]; omega))) ?_; refine tv (o_ldP (a := aT) (xs := strW ts) p9 rfl (by repeat (first | exact hrT | apply Rs.left)) (strW_at hit)) ?_; refine tl_env (d := 59) (v := .string w) (by show Value.string ts[i] = _; rw [hw]) ?_; refine tl_c rfl (o_call bd15 rfl (PutB_c (X := X) (Y := Yi) (T := Ti) (s := s0 60) (str := w) (hok := hp1) (hb := hbk) (hsz := hwz))) ?_; rintro _ _ ⟨ref, e, T60, Y60, hput, rfl, hok60, rfl⟩
                rw [hXn] at hput
                obtain rfl : e = 0 := bb_room hp2 hput hws hur hl60
                obtain ⟨L, hL, hB2, hr0⟩ := bb_put hp2 hput (fun b hb => by rw [hXb]; exact s0_in (by decide) hb (by decide))
                obtain ⟨E1, hE1⟩ : ∃ E1, E ++ [⟨ref, w, L⟩] = E1 := ⟨_, rfl⟩
                have hE1r : refV E ++ [.int .u32 ((ref : Nat) : Int)] = refV E1 := by rw [← hE1]; exact refV_snoc E ⟨ref, w, L⟩
                have hE1s : strV E ++ [.string w] = strV E1 := by rw [← hE1]; exact strV_snoc E ⟨ref, w, L⟩
                have hE1b : (blsE E1).length = (blsE E).length + nblk w.size := by rw [← hE1, blsE_app, List.length_append, blsE_one, hL]
                have hE1m : E1.length = m + 1 := by rw [← hE1, List.length_append, List.length_singleton, hEm]
                rw [hE1] at hB2
                refine tlm ?_; refine tv (o_extract rfl rfl) ?_; refine tv (o_extract rfl rfl) ?_; refine tla ?_; refine tla ?_; refine nq ?_; refine tc_seq ?_; refine sr ?_; refine tlm ?_; refine tv (o_nei rfl rfl) ?_; refine tlm ?_; refine tl_bool (d := 65) rfl (fun h => ?_) (fun h => ?_)
                · exfalso; simp at h
                · try simp only [lv1, lv2, lv3, lv4, lv5, lv6, Bool.not_true, Bool.not_false] at h
                  refine tlm ?_; refine tv (o_eqi rfl rfl) ?_; refine tlm ?_; refine tlm ?_; refine tv (o_ixP1 (a := aT) (j := i) Tryz.underlying25 sz9 rfl rfl (by omega) (nn_rs (xs := strW ts) (by repeat (first | exact hrT | apply Rs.left)) (by rw [strW_len]; omega))) ?_; refine tv (o_ldP (a := aT) (xs := strW ts) p9 rfl (by repeat (first | exact hrT | apply Rs.left)) (strW_at hit)) ?_; refine tl_env (d := 71) (v := .string w) (by show Value.string ts[i] = _; rw [hw]) ?_; refine tv (o_eqstr rfl rfl) ?_; refine tl_env (d := 72) (v := .bool (decide (sbys w = []))) (str_w w) ?_; refine tv (o_neb Tryz.underlying4 rfl rfl) ?_; refine tl_env (d := 73) (v := .bool false) (by have e9 : decide (((ref : Nat) : Int) = 0) = decide (sbys w = []) := decide_eq_decide.2 (by rw [← hr0]; omega); show Value.bool (decide (((ref : Nat) : Int) = 0) != decide (sbys w = [])) = _; rw [e9]; simp) ?_; refine tv (o_pick_f rfl (by conv => lhs; whnf)) ?_; refine nq ?_; refine tc_cond rfl (fun h => ?_) (fun h => ?_)
                  · exfalso; simp at h
                  · try simp only [lv1, lv2, lv3, lv4, lv5, lv6, Bool.not_true, Bool.not_false] at h
                    refine tc_skip ?_; refine q_then_n ?_; refine sr ?_; refine tlm ?_; refine tlm ?_; refine tl_x rfl (o_buildSlice1 Tryz.underlying31 sz32 z32 (by conv => lhs; whnf) rfl) ?_; rintro _ _ ⟨b77, rfl, rfl⟩; refine tl_x rfl (o_apB Tryz.underlying31 Tryz.underlying31 sz32 by32 z32 rfl (by decide) (by decide) rfl rfl rfl (by repeat (first | with_reducible exact ct_here | apply ct_left)) rfl (one_u32 _) (by first | omega | (simp only [bys_length, ints_length, wds_length, bos_length, List.length_append, List.length_take, List.length_drop, List.length_singleton]; omega)) hE1r) ?_; rintro _ _ ⟨a78, c78, rfl, hc78, rfl⟩; refine tla ?_; refine nq ?_; refine sr ?_; refine tlm ?_; refine tlm ?_; refine tlm ?_; refine tv (o_ixP1 (a := aT) (j := i) Tryz.underlying25 sz9 rfl rfl (by omega) (nn_rs (xs := strW ts) (by repeat (first | exact hrT | apply Rs.left)) (by rw [strW_len]; omega))) ?_; refine tv (o_ldP (a := aT) (xs := strW ts) p9 rfl (by repeat (first | exact hrT | apply Rs.left)) (strW_at hit)) ?_; refine tl_env (d := 83) (v := .string w) (by show Value.string ts[i] = _; rw [hw]) ?_
                    refine tl_x rfl (o_buildSlice1 Tryz.underlying25 sz9 z9 (by conv => lhs; whnf) rfl) ?_; rintro _ _ ⟨b84, rfl, rfl⟩; refine tl_x rfl (o_apB Tryz.underlying25 Tryz.underlying25 sz9 by9 z9 rfl (by decide) (by decide) rfl rfl rfl (by repeat (first | with_reducible exact ct_here | apply ct_left)) rfl (one_str _) (by first | omega | (simp only [bys_length, ints_length, wds_length, bos_length, List.length_append, List.length_take, List.length_drop, List.length_singleton]; omega)) hE1s) ?_; rintro _ _ ⟨a85, c85, rfl, hc85, rfl⟩; refine tla ?_; refine nq ?_; refine sr ?_; refine tlm ?_; refine tlm ?_; refine tv (o_addI rfl rfl (by omega)) ?_; refine tl_env (d := 88) (v := .int .i64 (((blsE E1).length : Nat) : Int)) (congrArg (Value.int .i64) (by omega)) ?_; refine tla ?_; refine nq ?_; refine tc_seq ?_; refine tc_seq ?_; refine tc_cut (fun ρ BB => ∃ (b3 : Bool), (b3 = decide (i < nD)) ∧ ρ 97 = .bool b3 ∧ ρ 0 = .slice aT nT cT ∧ ρ 1 = .slice aD nD cD ∧ ρ 6 = .pointer (some ⟨X.w, 0, none⟩) ∧ ρ 8 = .slice a78 (m + 1) c78 ∧ ρ 9 = .slice a85 (m + 1) c85 ∧ ρ 10 = .int .i64 (((blsE E1).length : Nat) : Int) ∧ ρ 11 = .int .i64 ((i : Nat) : Int) ∧ Dr BB (F * WkA X Y60 (s0 60) * Sl 1 (.slice a78 (m + 1) c78) (m + 1) (refV E1) * Sl 1 (.slice a85 (m + 1) c85) (m + 1) (strV E1))) ?_ ?_
                    · skip
                      refine tc_reg ?_; refine tlm ?_; refine tlm ?_; refine tv (o_len Tryz.underlying26 rfl) ?_; refine tv (o_lss rfl rfl) ?_; refine tlm ?_; refine tl_bool (d := 93) rfl (fun h => ?_) (fun h => ?_)
                      · try simp only [lv1, lv2, lv3, lv4, lv5, lv6, Bool.not_true, Bool.not_false] at h
                        refine tlm ?_; refine tv (o_len Tryz.underlying31 rfl) ?_; refine tv (o_gtr rfl rfl) ?_; refine tv (o_pick_t rfl (by conv => lhs; whnf)) ?_; refine tl_nil ?_; exact ⟨_, by first | exact (decide_eq_true (by omega)).symm | exact (decide_eq_false (by omega)).symm | (rw [decide_eq_decide]; omega), rfl, rfl, rfl, rfl, rfl, rfl, rfl, rfl, (by repeat (first | with_reducible exact dr_refl | apply dr_keep | apply dr_drop))⟩
                      · try simp only [lv1, lv2, lv3, lv4, lv5, lv6, Bool.not_true, Bool.not_false] at h
                        refine tk ?_; refine tk ?_; refine tk ?_; refine tv (o_pick_f rfl (by conv => lhs; whnf)) ?_; refine tl_nil ?_; exact ⟨_, by first | exact (decide_eq_true (by omega)).symm | exact (decide_eq_false (by omega)).symm | (rw [decide_eq_decide]; omega), rfl, rfl, rfl, rfl, rfl, rfl, rfl, rfl, (by repeat (first | with_reducible exact dr_refl | apply dr_keep | apply dr_drop))⟩
                    · intro ρ B hI
                      obtain ⟨b3, hb30, hE97, hE0, hE1, hE6, hE8, hE9, hE10, hE11, hBA⟩ := hI
                      refine q_then_n ?_; refine tc_pre hBA.sat ?_
                      clear hBA
                      refine tc_env (d := 97) hE97 ?_; refine tc_env (d := 0) hE0 ?_; refine tc_env (d := 1) hE1 ?_; refine tc_env (d := 6) hE6 ?_; refine tc_env (d := 8) hE8 ?_; refine tc_env (d := 9) hE9 ?_; refine tc_env (d := 10) hE10 ?_; refine tc_env (d := 11) hE11 ?_
                      clear hE97 hE0 hE1 hE6 hE8 hE9 hE10 hE11
                      refine tc_cut (fun ρ BB => ∃ (E2 : List E14) (Yz : WkY) (Tz : WkT), (E2.length = m + 1) ∧ (WkOk X Yz Tz ((s0 60).ls.length * 64)) ∧ (BBk Tz (conB Tz (s0 60) X.ba) E2) ∧ ρ 10 = .int .i64 (((blsE E2).length : Nat) : Int) ∧ ρ 0 = .slice aT nT cT ∧ ρ 1 = .slice aD nD cD ∧ ρ 6 = .pointer (some ⟨X.w, 0, none⟩) ∧ ρ 8 = .slice a78 (m + 1) c78 ∧ ρ 9 = .slice a85 (m + 1) c85 ∧ ρ 11 = .int .i64 ((i : Nat) : Int) ∧ Dr BB (F * WkA X Yz (s0 60) * Sl 1 (.slice a78 (m + 1) c78) (m + 1) (refV E2) * Sl 1 (.slice a85 (m + 1) c85) (m + 1) (strV E2))) ?_ ?_
                      · skip
                        refine tc_cond rfl (fun h => ?_) (fun h => ?_)
                        · have hiD : i < nD := of_decide_eq_true (by rw [← hb30]; exact h)
                          obtain ⟨z, hz⟩ : ∃ z, ds[i] = z := ⟨_, rfl⟩
                          have hw0 := Int.emod_nonneg z (show ((m + 1 : Nat) : Int) ≠ 0 by omega)
                          have hw1 := Int.emod_lt_of_pos z (show (0 : Int) < ((m + 1 : Nat) : Int) by omega)
                          obtain ⟨q, hq⟩ : ∃ q : Nat, z % ((m + 1 : Nat) : Int) = q := ⟨(z % ((m + 1 : Nat) : Int)).toNat, by omega⟩
                          have hqm : q < E1.length := by omega
                          obtain ⟨e1, he1⟩ : ∃ e1, E1[q] = e1 := ⟨_, rfl⟩
                          have he1m : e1 ∈ E1 := he1 ▸ List.getElem_mem hqm
                          obtain ⟨hB3, hdl⟩ := bb_drop hB2 hqm
                          rw [he1] at hB3 hdl
                          obtain ⟨E2, hE2⟩ : ∃ E2, E1.set q e0E = E2 := ⟨_, rfl⟩
                          rw [hE2] at hB3 hdl
                          have hse := refV_set E1 q
                          have hst := strV_set E1 q
                          rw [hE2] at hse hst
                          have hE2m : E2.length = m + 1 := by rw [← hE2, List.length_set, hE1m]
                          have hez := hB2.sz e1 he1m
                          have hwh := chn_wh (hB2.chn e1 he1m) (by rw [sbys_len]; exact hez)
                          have hrf : e1.ref < 4294967296 := ref_lt (hB2.chn e1 he1m) (fun b hb => by have := used_n hok60 hb; omega)
                          refine sr ?_; refine tlm ?_; refine tlm ?_; refine tv (o_ixP1 (a := aD) (j := i) Tryz.underlying26 sz3 rfl rfl (by omega) (nn_rs (xs := ints ds) (by repeat (first | exact hrD | apply Rs.left)) (by rw [ints_length]; omega))) ?_; refine tv (o_ldP (a := aD) (xs := ints ds) p3 rfl (by repeat (first | exact hrD | apply Rs.left)) (ints_at (by omega))) ?_; refine tl_env (d := 101) (v := .int .i64 z) (by show Value.int .i64 ds[i] = _; rw [hz]) ?_; refine tlm ?_; refine tv (o_len Tryz.underlying31 rfl) ?_; refine tl_c rfl (o_call bd16 rfl (within14_c (i := z) (n := ((m + 1 : Nat) : Int)))) ?_; rintro _ _ ⟨rfl, rfl⟩; refine tl_env (d := 104) (v := .int .i64 ((q : Nat) : Int)) (congrArg (Value.int .i64) hq) ?_; refine tla ?_; refine nq ?_; refine sr ?_; refine tlm ?_; refine tlm ?_; refine tlm ?_; refine tv (o_ixP1 (a := a85) (j := q) Tryz.underlying25 sz9 rfl rfl (by omega) (nn_rs (xs := strV E1) (by repeat (first | with_reducible exact rs_sl | apply Rs.left)) (by rw [strV_len]; omega))) ?_
                          refine tv (o_ldP (a := a85) (xs := strV E1) p9 rfl (by repeat (first | with_reducible exact rs_sl | apply Rs.left)) (strV_at hqm)) ?_; refine tl_env (d := 109) (v := .string e1.s) (by show Value.string E1[q].s = _; rw [he1]) ?_; refine tv (o_lenS Tryz.underlying9 rfl) ?_; refine tl_c rfl (o_call bd11 rfl (NeedB_c (n := ((e1.s.size : Nat) : Int)))) ?_; rintro _ _ ⟨rfl, rfl⟩; refine tl_env (d := 111) (v := .int .i64 ((nblk e1.s.size : Nat) : Int)) (by show Value.int .i64 ((nblk ((e1.s.size : Nat) : Int).toNat : Nat) : Int) = _; rw [Int.toNat_natCast]) ?_; refine tv (o_subI rfl rfl (by omega)) ?_; refine tl_env (d := 112) (v := .int .i64 (((blsE E2).length : Nat) : Int)) (congrArg (Value.int .i64) (by omega)) ?_; refine tla ?_; refine nq ?_; refine tc_seq ?_; refine sr ?_; refine tlm ?_; refine tlm ?_; refine tlm ?_; refine tv (o_ixP1 (a := a78) (j := q) Tryz.underlying31 sz32 rfl rfl (by omega) (nn_rs (xs := refV E1) (by repeat (first | with_reducible exact rs_sl | apply Rs.left)) (by rw [refV_len]; omega))) ?_
                          refine tv (o_ldP (a := a78) (xs := refV E1) p32 rfl (by repeat (first | with_reducible exact rs_sl | apply Rs.left)) (refV_at hqm)) ?_; refine tl_env (d := 117) (v := .int .u32 ((e1.ref : Nat) : Int)) (by show Value.int .u32 ((E1[q].ref : Nat) : Int) = _; rw [he1]) ?_; refine tl_c rfl (o_call bd17 rfl (DropB_c (X := X) (Y := Y60) (T := T60) (s := s0 60) (ref := e1.ref) (hok := hok60) (hb := hbk) (hr1 := hrf))) ?_; rintro _ _ ⟨t118, l118, e118, Y118, hw118, rfl, hok118, rfl⟩
                          rw [hwh] at hw118
                          obtain ⟨rfl, rfl, rfl⟩ : sbys e1.s = t118 ∧ e1.l = l118 ∧ 0 = e118 := by simpa using hw118
                          have hz1 := hE2m
                          have hz2 := hok118
                          have hz3 := hB3
                          refine tv (o_nei rfl rfl) ?_; refine nq ?_; refine tc_cond rfl (fun h => ?_) (fun h => ?_)
                          · exfalso; simp at h
                          · try simp only [lv1, lv2, lv3, lv4, lv5, lv6, Bool.not_true, Bool.not_false] at h
                            refine tc_skip ?_; refine q_then_n ?_; refine sr ?_; refine tlm ?_; refine tlm ?_; refine tv (o_ixP1 (a := a78) (j := q) Tryz.underlying31 sz32 rfl rfl (by omega) (nn_rs (xs := refV E1) (by repeat (first | with_reducible exact rs_sl | apply Rs.left)) (by rw [refV_len]; omega))) ?_; refine tl_u rfl (o_stP (ys := refV E2) sz32 rfl rfl rfl (by repeat (first | with_reducible exact ct_here | apply ct_left)) (by omega) hse) ?_; refine nq ?_; refine tc_reg ?_; refine tlm ?_; refine tlm ?_; refine tv (o_ixP1 (a := a85) (j := q) Tryz.underlying25 sz9 rfl rfl (by omega) (nn_rs (xs := strV E1) (by repeat (first | with_reducible exact rs_sl | apply Rs.left)) (by rw [strV_len]; omega))) ?_; refine tl_u rfl (o_stP (ys := strV E2) sz9 rfl rfl rfl (by repeat (first | with_reducible exact ct_here | apply ct_left)) (by omega) hst) ?_; refine tl_nil ?_; exact ⟨_, _, _, hz1, hz2, hz3, rfl, rfl, rfl, rfl, rfl, rfl, rfl, (by repeat (first | with_reducible exact dr_refl | apply dr_keep | apply dr_drop))⟩
                        · have hz1 : E1.length = m + 1 := hE1m
                          have hz2 := hok60
                          have hz3 := hB2
                          refine tc_skip ?_; exact ⟨_, _, _, hz1, hz2, hz3, rfl, rfl, rfl, rfl, rfl, rfl, rfl, (by repeat (first | with_reducible exact dr_refl | apply dr_keep | apply dr_drop))⟩
                      · intro ρ B hI
                        obtain ⟨E2, Yz, Tz, hz0, hz1, hz2, hE10, hE0, hE1, hE6, hE8, hE9, hE11, hBA⟩ := hI
                        refine q_then_n ?_; refine tc_pre hBA.sat ?_
                        clear hBA
                        refine tc_env (d := 10) hE10 ?_; refine tc_env (d := 0) hE0 ?_; refine tc_env (d := 1) hE1 ?_; refine tc_env (d := 6) hE6 ?_; refine tc_env (d := 8) hE8 ?_; refine tc_env (d := 9) hE9 ?_; refine tc_env (d := 11) hE11 ?_
                        clear hE10 hE0 hE1 hE6 hE8 hE9 hE11
                        refine sr ?_; refine tlm ?_; refine tlm ?_; refine tlm ?_; refine tlm ?_; refine tl_c rfl (o_call bd18 rfl (told_c (X := X) (Y := Yz) (T := Tz) (s := s0 60) (E := E2) (u := (blsE E2).length) (hok := hz1) (hb := hbk) (hX := hXn) (hB := hz2) (hrR := (by repeat (first | with_reducible exact rs_sl | apply Rs.left))) (hrS := (by repeat (first | with_reducible exact rs_sl | apply Rs.left))) (hm := hz0) (hm9 := by omega) (hu := rfl))) ?_; rintro _ _ ⟨rfl, rfl⟩; refine tv (o_not rfl) ?_; refine nq ?_; refine tc_cond rfl (fun h => ?_) (fun h => ?_)
                        · exfalso; simp at h
                        · have hcl : i + 1 ≤ nT ∧ E2.length = m + 1 ∧ m + 1 ≤ i + 1 ∧ i + 1 ≤ 10 ∧ m + 1 ≤ c78 ∧ m + 1 ≤ c85 := ⟨by omega, hz0, by omega, by omega, hc78, hc85⟩
                          have hcl2 := hz1
                          have hcl3 := hz2
                          refine tc_skip ?_; refine q_block_n (q_then_n ?_); refine tc_reg ?_; refine tlm ?_; refine tv (by first | exact o_addI rfl rfl (by omega) | exact o_add rfl rfl) ?_; refine tla ?_; refine nq ?_; exact ⟨_, by omega, i + 1, _, _, _, _, _, _, _, _, hcl, hcl2, hcl3, rfl, rfl, rfl, rfl, rfl, rfl, rfl, rfl, (by repeat (first | with_reducible exact dr_refl | apply dr_keep | apply dr_drop))⟩
          · obtain ⟨hp0, hEm, hmi, hmi2, hm8, hm9⟩ := hp0
            have hrl : ∀ j, j < E.length → E.drop j = (E.getD j e0E) :: E.drop (j + 1) := fun j hj => by rw [List.drop_eq_getElem_cons hj, List.getD_eq_getElem?_getD, List.getElem?_eq_getElem hj]; rfl
            refine tc_exit ?_; refine q_then_e (q_then_e (q_block_x (q_then_n ?_))); refine tc_seq ?_; refine sr ?_; refine tla ?_; refine nq ?_; refine tc_block ?_; refine tc_loop (fun kk ρ BB => ∃ (j : Nat) (Yj : WkY) (Tj : WkT), (j ≤ m) ∧ (WkOk X Yj Tj ((s0 60).ls.length * 64)) ∧ (BBk Tj (conB Tj (s0 60) X.ba) (E.drop j)) ∧ kk = m - j ∧ ρ 16 = .int .i64 ((j : Nat) : Int) ∧ ρ 6 = .pointer (some ⟨X.w, 0, none⟩) ∧ ρ 8 = .slice a8 m c8 ∧ Dr BB (F * WkA X Yj (s0 60) * Sl 1 (.slice a8 m c8) m (refV E))) (m := m - (0)) ?_ ?_
            · exact ⟨0, Yi, Ti, by omega, hp1, hp2, rfl, rfl, rfl, rfl, (by repeat (first | with_reducible exact dr_refl | apply dr_keep | apply dr_drop))⟩
            · intro k ρ B hI
              obtain ⟨j, Yj, Tj, hq0, hq1, hq2, hkk2, hE16, hE6, hE8, hBA⟩ := hI
              refine tc_pre hBA.sat ?_
              clear hBA
              refine tc_env (d := 16) hE16 ?_; refine tc_env (d := 6) hE6 ?_; refine tc_env (d := 8) hE8 ?_
              clear hE16 hE6 hE8
              refine tc_seq ?_; refine sr ?_; refine tlm ?_; refine tlm ?_; refine tv (o_len Tryz.underlying31 rfl) ?_; refine tv (o_lss rfl rfl) ?_; refine nq ?_; refine tc_cond rfl (fun h => ?_) (fun h => ?_)
              · have hj : j < E.length := by first | omega | (simp at h; omega)
                obtain ⟨e1, he1⟩ : ∃ e1, E[j] = e1 := ⟨_, rfl⟩
                have hdr : E.drop j = e1 :: E.drop (j + 1) := by rw [List.drop_eq_getElem_cons hj, he1]
                rw [hdr] at hq2
                have he1m : e1 ∈ e1 :: E.drop (j + 1) := List.mem_cons_self ..
                have hez := hq2.sz e1 he1m
                have hwh := chn_wh (hq2.chn e1 he1m) (by rw [sbys_len]; exact hez)
                have hrf : e1.ref < 4294967296 := ref_lt (hq2.chn e1 he1m) (fun b hb => by have := used_n hq1 hb; omega)
                have hBn := bb_give (E := []) hq2
                rw [List.nil_append] at hBn
                refine tc_skip ?_; refine q_then_n ?_; refine tc_seq ?_; refine tc_block ?_; refine sr ?_; refine tlm ?_; refine tlm ?_; refine tlm ?_; refine tv (o_ixP1 (a := a8) (j := j) Tryz.underlying31 sz32 rfl rfl (by omega) (nn_rs (xs := refV E) (by repeat (first | with_reducible exact rs_sl | apply Rs.left)) (by rw [refV_len]; omega))) ?_; refine tv (o_ldP (a := a8) (xs := refV E) p32 rfl (by repeat (first | with_reducible exact rs_sl | apply Rs.left)) (refV_at hj)) ?_; refine tl_env (d := 142) (v := .int .u32 ((e1.ref : Nat) : Int)) (by show Value.int .u32 ((E[j].ref : Nat) : Int) = _; rw [he1]) ?_; refine tl_c rfl (o_call bd17 rfl (DropB_c (X := X) (Y := Yj) (T := Tj) (s := s0 60) (ref := e1.ref) (hok := hq1) (hb := hbk) (hr1 := hrf))) ?_; rintro _ _ ⟨t143, l143, e143, Y143, hw143, rfl, hok143, rfl⟩
                rw [hwh] at hw143
                obtain ⟨rfl, rfl, rfl⟩ : sbys e1.s = t143 ∧ e1.l = l143 ∧ 0 = e143 := by simpa using hw143
                refine tv (o_nei rfl rfl) ?_; refine nq ?_; refine tc_cond rfl (fun h => ?_) (fun h => ?_)
                · exfalso; simp at h
                · try simp only [lv1, lv2, lv3, lv4, lv5, lv6, Bool.not_true, Bool.not_false] at h
                  refine tc_skip ?_; refine q_block_n (q_then_n ?_); refine tc_reg ?_; refine tlm ?_; refine tv (by first | exact o_addI rfl rfl (by omega) | exact o_add rfl rfl) ?_; refine tla ?_; refine nq ?_; exact ⟨_, by omega, j + 1, Y143, _, by omega, hok143, hBn, rfl, rfl, rfl, rfl, (by repeat (first | with_reducible exact dr_refl | apply dr_keep | apply dr_drop))⟩
              · have hj : j = m := by first | omega | (simp at h; omega)
                rw [List.drop_of_length_le (by omega)] at hq2
                have htk0 : ∀ b, b < X.n → Tj.tk b = false := fun b _ => by cases h9 : Tj.tk b; rfl; exact absurd ((hq2.tk b).1 h9) (by rw [blsE_nil]; simp)
                refine tc_exit ?_; refine q_then_e (q_then_e (q_block_x (q_then_n ?_))); refine sr ?_; refine tlm ?_; refine tl_c rfl (o_call bd19 rfl (Taken13_c (X := X) (Y := Yj) (T := Tj) (s := s0 60) (hok := hq1) (hb := hbk))) ?_; rintro _ _ ⟨a146, c146, rfl, hc146, rfl⟩; refine tl_env (d := 146) (v := .slice a146 0 c146) (by show Value.slice a146 (adZ X.n Tj.tk).length c146 = _; rw [adZ_none htk0]; rfl) ?_; refine tv (o_len Tryz.underlying26 rfl) ?_; refine tv (o_eqi rfl rfl) ?_; refine tlm ?_; refine tl_bool (d := 149) rfl (fun h => ?_) (fun h => ?_)
                · try simp only [lv1, lv2, lv3, lv4, lv5, lv6, Bool.not_true, Bool.not_false] at h
                  refine tlm ?_; refine tl_c rfl (o_call bd20 rfl (Given13_c (X := X) (Y := Yj) (T := Tj) (s := s0 60) (hok := hq1) (hb := hbk))) ?_; rintro _ _ ⟨a151, c151, rfl, hc151, rfl⟩; refine tl_env (d := 151) (v := .slice a151 0 c151) (by show Value.slice a151 (adZ X.n Tj.gv).length c151 = _; rw [hq2.gv, adZ_none (g := g0) fun b _ => rfl]; rfl) ?_; refine tv (o_len Tryz.underlying26 rfl) ?_; refine tv (o_eqi rfl rfl) ?_; refine tv (o_pick_t rfl (by conv => lhs; whnf)) ?_; refine tla ?_; refine nq ?_; refine tc_ret ?_; exact ⟨.bool true, F, res1 rfl rfl, Dr.sat (by repeat (first | with_reducible exact dr_refl | apply dr_keep | apply dr_drop)), rfl, rfl⟩
                · exfalso; simp at h
end Go.Vl

namespace Go.Vl
open Go Go.Proofs
/-- A text. -/
def PStr (cs : List Value) (s : ByteArray) : Prop := cs = [.string s] ∧ s.size ≤ 9223372036854775807
theorem rdb_str {P : Program} {W : World} {t : TypeId} (ht : P.underlying t = some .string) : Rdb P W t PStr := fun H enc sp hd fu cs d pl h _ => by
  obtain ⟨s, e, _, hs⟩ := DataW.trod_string ht h
  exact ⟨s, e, by have := hs; have h9 : maxLen = 9223372036854775807 := rfl; omega⟩
def PStrs (A : SP) (cs : List Value) (ts : List ByteArray) : Prop := ∃ a cap, cs = [.slice a ts.length cap] ∧ ts.length ≤ 140737488351232 ∧ Rs A a (strW ts) ∧ ∀ w ∈ ts, w.size ≤ 9223372036854775807
theorem rdb_strs (W : World) : Rdb Tryz.prog W 25 (PStrs (old W)) :=
  (rdb_slice (k := 1) (b := 16) Tryz.underlying25 (by kernel_rfl) (by kernel_rfl) (by decide) (rdb_str (W := W) Tryz.underlying9)).mono fun cs xs ⟨a, cap, Cs, e1, hc, hs, hl, hx, hr⟩ => by
    refine ⟨xs, a, cap, e1, by unfold reachBytes at hs; omega, ?_, fun w hw => ?_⟩
    · rw [show strW xs = Cs.flatten from (flat1 (r := PStr) (f := fun w : ByteArray => .string w) hl (fun i h h' => (hx i h h').2.1)).symm]; exact hr
    · obtain ⟨i, hi, rfl⟩ := List.mem_iff_getElem.1 hw
      exact (hx i hi (by omega)).2.2
theorem BlobBack_L (F : SP) (v : Value) (ts : List ByteArray) (h : PStrs F [v] ts) (v2 : Value) (ds : List Int) (h2 : PInts F [v2] ds) : Fn Tryz.prog 4 #[v, v2] F (fun r B => r = .bool true ∧ B = F) := by
  obtain ⟨a, c, e, l1, r1, z1⟩ := h
  obtain ⟨a2, c2, e2, _, l2, r2, _⟩ := h2
  simp only [List.cons.injEq, and_true] at e e2
  subst e e2
  exact BlobBack_f r1 rfl l1 z1 r2 rfl (by omega)
end Go.Vl
