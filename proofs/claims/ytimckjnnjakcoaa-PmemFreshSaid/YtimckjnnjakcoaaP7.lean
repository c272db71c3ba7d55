/- vellumlaw08: the power goes behind an operation; what a device that is off answers. Conditions: none. -/
import Derived.Test.YtimckjnnjakcoaaP6
import Derived.Test.YtimckjnnjakcoaaL8f
import Derived.Test.YtimckjnnjakcoaaP3
set_option linter.unusedVariables false
set_option linter.unusedSimpArgs false
namespace Go.Vl
open Go Go.Proofs


theorem off_rdy {n : Nat} {p m : Int} : rdy n true p m = 5 := by unfold rdy; rw [if_pos rfl]
theorem off_st8 {p : Int} {v : Nat} {s s2 : DevS} {e : Int} (h : s.off = true) (hs : st8 p v s = (e, s2)) : 5 = e ∧ s = s2 := by
  unfold st8 at hs; rw [h, off_rdy, if_pos (by decide)] at hs; simp only [Prod.mk.injEq] at hs; exact hs
theorem off_sto {p : Int} {b : List Nat} {s s2 : DevS} {e : Int} (h : s.off = true) (hs : sto p b s = (e, s2)) : 5 = e ∧ s = s2 := by
  unfold sto at hs; rw [h, off_rdy, if_pos (by decide)] at hs; simp only [Prod.mk.injEq] at hs; exact hs
theorem off_fl1 {p : Int} {s s2 : DevS} {e : Int} (h : s.off = true) (hs : fl1 p s = (e, s2)) : 5 = e ∧ s = s2 := by
  unfold fl1 at hs; rw [h, off_rdy, if_pos (by decide)] at hs; simp only [Prod.mk.injEq] at hs; exact hs
theorem off_fe {s s2 : DevS} {e : Int} (h : s.off = true) (hs : fe s = (e, s2)) : 5 = e ∧ s = s2 := by
  unfold fe at hs; rw [if_pos h] at hs; simp only [Prod.mk.injEq] at hs; exact hs
theorem off_crS {k : List Int} {s s2 : DevS} {e : Int} (h : s.off = true) (hs : crS k s = (e, s2)) : 5 = e ∧ s = s2 := by
  unfold crS at hs; rw [if_pos h] at hs; simp only [Prod.mk.injEq] at hs; exact hs
theorem off_armS {k : List (Int × List Int)} {s s2 : DevS} {e : Int} (h : s.off = true) (hs : armS k s = (e, s2)) : 5 = e ∧ s = s2 := by
  unfold armS at hs; rw [if_pos h] at hs; simp only [Prod.mk.injEq] at hs; exact hs
theorem rdA_nil {A : SP} {a : Option Addr} : RdA A a [] [] := ⟨rs_nil, rfl, fun i h => by simp at h⟩

theorem offW_f (F : SP) {d : Nat} {s : DevS} (hoff : s.off = true) (hroom : Room 1 s) :
    Fn Try.prog 46 #[.pointer (some ⟨d, 0, none⟩)] (F * Dev d s) (fun r B => r = .bool true ∧ B = F * Dev d s) := by
  refine fn_enterW (args := [.pointer (some ⟨d, 0, none⟩)]) Try.func46 rfl Try.ntmps46 (by simp) ?_
  refine tc_dev fun hw _ _ _ _ _ _ => ?_
  have hpos := hw.pos
  have htop := hw.top
  refine tc_pre (dev_back hw ‹_› ‹_›) ?_
  have hr5 : ∀ p m, rdy s.ls.length s.off p m = 5 := fun p m => by rw [hoff]; exact off_rdy
  refine tc_seq ?_
  refine tc_reg ?_
  refine tl_v rfl (o_assign (by conv => lhs; whnf)) ?_
  refine tl_nil ?_
  refine q_then_n ?_
  refine tc_seq ?_
  refine tc_reg ?_
  refine tl_v rfl (o_move (by conv => lhs; whnf)) ?_
  refine tl_c rfl (o_call bd33 rfl (Image_c)) ?_
  rintro _ _ ⟨a11, c11, rfl, hc11, rfl⟩
  refine tl_v rfl (o_assign (by conv => lhs; whnf)) ?_
  refine tl_nil ?_
  refine q_then_n ?_
  refine tc_seq ?_
  refine tc_reg ?_
  refine tl_v rfl (o_move (by conv => lhs; whnf)) ?_
  refine tl_c rfl (o_call bd41 rfl (Ops_c)) ?_
  rintro _ _ ⟨rfl, rfl⟩
  refine tl_v rfl (o_assign (by conv => lhs; whnf)) ?_
  refine tl_nil ?_
  refine q_then_n ?_
  refine tc_seq ?_
  refine tc_reg ?_
  refine tl_v rfl (o_move (by conv => lhs; whnf)) ?_
  refine tl_c rfl (o_call bd27 rfl (LoadNo_c (hno := by rw [hr5]; decide))) ?_
  rintro _ _ ⟨rfl, rfl⟩
  rw [hr5]
  refine tl_v rfl (o_move (by conv => lhs; whnf)) ?_
  refine tl_v rfl (o_extract rfl rfl) ?_
  refine tl_v rfl (o_extract rfl rfl) ?_
  refine tl_v rfl (o_assign (by conv => lhs; whnf)) ?_
  refine tl_v rfl (o_assign (by conv => lhs; whnf)) ?_
  refine tl_nil ?_
  refine q_then_n ?_
  refine tc_seq ?_
  refine tc_reg ?_
  refine tl_v rfl (o_move (by conv => lhs; whnf)) ?_
  refine tl_c rfl (o_call bd27 rfl (LoadNo_c (hno := by rw [hr5]; decide))) ?_
  rintro _ _ ⟨rfl, rfl⟩
  rw [hr5]
  refine tl_v rfl (o_move (by conv => lhs; whnf)) ?_
  refine tl_v rfl (o_extract rfl rfl) ?_
  refine tl_v rfl (o_extract rfl rfl) ?_
  refine tl_v rfl (o_assign (by conv => lhs; whnf)) ?_
  refine tl_v rfl (o_assign (by conv => lhs; whnf)) ?_
  refine tl_nil ?_
  refine q_then_n ?_
  refine tc_seq ?_
  refine tc_reg ?_
  refine tl_v rfl (o_move (by conv => lhs; whnf)) ?_
  refine tl_v rfl (o_eqi rfl rfl) ?_
  refine tl_v rfl (o_move (by conv => lhs; whnf)) ?_
  refine tl_bool (d := 26) rfl (fun h => ?_) (fun h => ?_)
  · try simp only [decide_eq_true_eq, decide_eq_false_iff_not, Bool.not_eq_true', Bool.not_eq_false', Option.isNone_some, Option.isNone_none, Bool.not_true, Bool.not_false] at h
    refine tl_v rfl (o_move (by conv => lhs; whnf)) ?_
    refine tl_v rfl (o_eqi rfl rfl) ?_
    refine tl_v rfl (o_pick_t rfl (by conv => lhs; whnf)) ?_
    refine tl_v rfl (o_move (by conv => lhs; whnf)) ?_
    refine tl_bool (d := 30) rfl (fun h => ?_) (fun h => ?_)
    · try simp only [decide_eq_true_eq, decide_eq_false_iff_not, Bool.not_eq_true', Bool.not_eq_false', Option.isNone_some, Option.isNone_none, Bool.not_true, Bool.not_false] at h
      refine tl_v rfl (o_move (by conv => lhs; whnf)) ?_
      refine tl_c rfl (o_call bd40 rfl (Store8_c (v := 9))) ?_
      rintro _ _ ⟨e32, s32, hs32, rfl, rfl⟩
      obtain ⟨rfl, rfl⟩ := off_st8 hoff hs32
      refine tl_v rfl (o_eqi rfl rfl) ?_
      refine tl_v rfl (o_pick_t rfl (by conv => lhs; whnf)) ?_
      refine tl_v rfl (o_move (by conv => lhs; whnf)) ?_
      refine tl_bool (d := 35) rfl (fun h => ?_) (fun h => ?_)
      · try simp only [decide_eq_true_eq, decide_eq_false_iff_not, Bool.not_eq_true', Bool.not_eq_false', Option.isNone_some, Option.isNone_none, Bool.not_true, Bool.not_false] at h
        refine tl_v rfl (o_move (by conv => lhs; whnf)) ?_
        refine tl_c rfl (o_call bd40 rfl (Store8_c (v := 9))) ?_
        rintro _ _ ⟨e37, s37, hs37, rfl, rfl⟩
        obtain ⟨rfl, rfl⟩ := off_st8 hoff hs37
        refine tl_v rfl (o_eqi rfl rfl) ?_
        refine tl_v rfl (o_pick_t rfl (by conv => lhs; whnf)) ?_
        refine tl_v rfl (o_move (by conv => lhs; whnf)) ?_
        refine tl_bool (d := 40) rfl (fun h => ?_) (fun h => ?_)
        · try simp only [decide_eq_true_eq, decide_eq_false_iff_not, Bool.not_eq_true', Bool.not_eq_false', Option.isNone_some, Option.isNone_none, Bool.not_true, Bool.not_false] at h
          refine tl_v rfl (o_move (by conv => lhs; whnf)) ?_
          refine tl_c rfl (o_call bd43 rfl (Store_c (xs := []) (hm := rfl) (hb := by simp) (hroom := by rw [hr5]; intro h; cases h))) ?_
          rintro _ _ ⟨e42, s42, hs42, rfl, rfl⟩
          obtain ⟨rfl, rfl⟩ := off_sto hoff hs42
          refine tl_v rfl (o_eqi rfl rfl) ?_
          refine tl_v rfl (o_pick_t rfl (by conv => lhs; whnf)) ?_
          refine tl_v rfl (o_move (by conv => lhs; whnf)) ?_
          refine tl_bool (d := 45) rfl (fun h => ?_) (fun h => ?_)
          · try simp only [decide_eq_true_eq, decide_eq_false_iff_not, Bool.not_eq_true', Bool.not_eq_false', Option.isNone_some, Option.isNone_none, Bool.not_true, Bool.not_false] at h
            refine tl_v rfl (o_move (by conv => lhs; whnf)) ?_
            refine tl_c rfl (o_call bd87 rfl (Flush_c)) ?_
            rintro _ _ ⟨e47, s47, hs47, rfl, rfl⟩
            obtain ⟨rfl, rfl⟩ := off_fl1 hoff hs47
            refine tl_v rfl (o_eqi rfl rfl) ?_
            refine tl_v rfl (o_pick_t rfl (by conv => lhs; whnf)) ?_
            refine tl_v rfl (o_move (by conv => lhs; whnf)) ?_
            refine tl_bool (d := 50) rfl (fun h => ?_) (fun h => ?_)
            · try simp only [decide_eq_true_eq, decide_eq_false_iff_not, Bool.not_eq_true', Bool.not_eq_false', Option.isNone_some, Option.isNone_none, Bool.not_true, Bool.not_false] at h
              refine tl_v rfl (o_move (by conv => lhs; whnf)) ?_
              refine tl_c rfl (o_call bd47 rfl (Fence_c)) ?_
              rintro _ _ ⟨e52, s52, hs52, rfl, rfl⟩
              obtain ⟨rfl, rfl⟩ := off_fe hoff hs52
              refine tl_v rfl (o_eqi rfl rfl) ?_
              refine tl_v rfl (o_pick_t rfl (by conv => lhs; whnf)) ?_
              refine tl_v rfl (o_move (by conv => lhs; whnf)) ?_
              refine tl_bool (d := 55) rfl (fun h => ?_) (fun h => ?_)
              · try simp only [decide_eq_true_eq, decide_eq_false_iff_not, Bool.not_eq_true', Bool.not_eq_false', Option.isNone_some, Option.isNone_none, Bool.not_true, Bool.not_false] at h
                refine tl_v rfl (o_move (by conv => lhs; whnf)) ?_
                refine tl_c rfl (o_call bd28 rfl (Crash_c (keep := []) (hm := rfl) (hk := by simp))) ?_
                rintro _ _ ⟨e57, s57, hs57, rfl, rfl⟩
                obtain ⟨rfl, rfl⟩ := off_crS hoff hs57
                refine tl_v rfl (o_eqi rfl rfl) ?_
                refine tl_v rfl (o_pick_t rfl (by conv => lhs; whnf)) ?_
                refine tl_v rfl (o_move (by conv => lhs; whnf)) ?_
                refine tl_bool (d := 60) rfl (fun h => ?_) (fun h => ?_)
                · try simp only [decide_eq_true_eq, decide_eq_false_iff_not, Bool.not_eq_true', Bool.not_eq_false', Option.isNone_some, Option.isNone_none, Bool.not_true, Bool.not_false] at h
                  refine tl_v rfl (o_move (by conv => lhs; whnf)) ?_
                  refine tl_c rfl (o_call bd44 rfl (Arm_c (kvs := []) (ars := []) (hr := rdA_nil) (hm := rfl) (hk := by simp))) ?_
                  rintro _ _ ⟨e62, s62, hs62, rfl, rfl⟩
                  obtain ⟨rfl, rfl⟩ := off_armS hoff hs62
                  refine tl_v rfl (o_eqi rfl rfl) ?_
                  refine tl_v rfl (o_pick_t rfl (by conv => lhs; whnf)) ?_
                  refine tl_v rfl (o_assign (by conv => lhs; whnf)) ?_
                  refine tl_nil ?_
                  refine q_then_n ?_
                  refine tc_seq ?_
                  refine tc_reg ?_
                  refine tl_v rfl (o_move (by conv => lhs; whnf)) ?_
                  refine tl_v rfl (o_move (by conv => lhs; whnf)) ?_
                  refine tl_bool (d := 66) rfl (fun h => ?_) (fun h => ?_)
                  · try simp only [decide_eq_true_eq, decide_eq_false_iff_not, Bool.not_eq_true', Bool.not_eq_false', Option.isNone_some, Option.isNone_none, Bool.not_true, Bool.not_false] at h
                    refine tl_v rfl (o_move (by conv => lhs; whnf)) ?_
                    refine tl_c rfl (o_call bd31 rfl (Off_c)) ?_
                    rintro _ _ ⟨rfl, rfl⟩
                    refine tl_v rfl (o_pick_t rfl (by conv => lhs; whnf)) ?_
                    refine tl_v rfl (o_move (by conv => lhs; whnf)) ?_
                    refine tl_bool (d := 70) rfl (fun h => ?_) (fun h => ?_)
                    · try simp only [decide_eq_true_eq, decide_eq_false_iff_not, Bool.not_eq_true', Bool.not_eq_false', Option.isNone_some, Option.isNone_none, Bool.not_true, Bool.not_false] at h
                      refine tl_v rfl (o_move (by conv => lhs; whnf)) ?_
                      refine tl_c rfl (o_call bd41 rfl (Ops_c)) ?_
                      rintro _ _ ⟨rfl, rfl⟩
                      refine tl_v rfl (o_move (by conv => lhs; whnf)) ?_
                      refine tl_v rfl (o_eqi rfl rfl) ?_
                      refine tl_v rfl (o_pick_t rfl (by conv => lhs; whnf)) ?_
                      refine tl_v rfl (o_move (by conv => lhs; whnf)) ?_
                      refine tl_bool (d := 76) rfl (fun h => ?_) (fun h => ?_)
                      · try simp only [decide_eq_true_eq, decide_eq_false_iff_not, Bool.not_eq_true', Bool.not_eq_false', Option.isNone_some, Option.isNone_none, Bool.not_true, Bool.not_false] at h
                        refine tl_v rfl (o_move (by conv => lhs; whnf)) ?_
                        refine tl_c rfl (o_call bd33 rfl (Image_c)) ?_
                        rintro _ _ ⟨a78, c78, rfl, hc78, rfl⟩
                        refine tl_v rfl (o_move (by conv => lhs; whnf)) ?_
                        have hil := img_length hw.line
                        refine tl_c rfl (o_call bd22 rfl (EqBytes_c (xs := imgS s) (ys := imgS s) (hx := hil) (hy := hil))) ?_
                        rintro _ _ ⟨rfl, rfl⟩
                        refine tl_v rfl (o_pick_t rfl (by conv => lhs; whnf)) ?_
                        refine tl_v rfl (o_assign (by conv => lhs; whnf)) ?_
                        refine tl_nil ?_
                        refine q_then_n ?_
                        refine tc_ret ?_
                        exact ⟨.bool (decide (imgS s = imgS s)), _, res1 rfl rfl, Dr.sat (by repeat (first | with_reducible exact dr_refl | apply dr_keep | apply dr_drop)), by simp, rfl⟩
                      · (exfalso; first | (revert h; simp; done) | (simp at h; done) | (revert h; simp; omega) | (simp at h; omega) | omega)
                    · exfalso; simp [hoff] at h
                  · exfalso; simp at h
                · (exfalso; first | (revert h; simp; done) | (simp at h; done) | (revert h; simp; omega) | (simp at h; omega) | omega)
              · (exfalso; first | (revert h; simp; done) | (simp at h; done) | (revert h; simp; omega) | (simp at h; omega) | omega)
            · (exfalso; first | (revert h; simp; done) | (simp at h; done) | (revert h; simp; omega) | (simp at h; omega) | omega)
          · (exfalso; first | (revert h; simp; done) | (simp at h; done) | (revert h; simp; omega) | (simp at h; omega) | omega)
        · (exfalso; first | (revert h; simp; done) | (simp at h; done) | (revert h; simp; omega) | (simp at h; omega) | omega)
      · (exfalso; first | (revert h; simp; done) | (simp at h; done) | (revert h; simp; omega) | (simp at h; omega) | omega)
    · (exfalso; first | (revert h; simp; done) | (simp at h; done) | (revert h; simp; omega) | (simp at h; omega) | omega)
  · (exfalso; first | (revert h; simp; done) | (simp at h; done) | (revert h; simp; omega) | (simp at h; omega) | omega)


theorem off_c {A R : SP} {C : SP → SP} {d : Nat} {s : DevS} (hc : Ct A (Dev d s) R C := by repeat (first | with_reducible exact ct_here | apply ct_left)) (hoff : s.off = true := by assumption) (hroom : Room 1 s := by assumption) : Fn Try.prog 46 #[.pointer (some ⟨d, 0, none⟩)] A (fun r B => r = .bool true ∧ A = B) := by
  obtain ⟨rfl, hC⟩ := hc
  exact (offW_f R hoff hroom).mono fun _ _ h => ⟨h.1, h.2.symm⟩


/-- The book, without its device. -/
def PlD (p d : Nat) (sv hv lv uv mv : Value) (hvs : List Value) (P : PlS) : SP :=
  pt p (cl (pcs d sv hv lv uv mv) 46) * Words hvs P.held * Sl 1 sv P.seen.length (wds P.seen) * Sl 1 hv P.seen.length hvs * Sl 1 lv P.seen.length (wds P.last) * Sl 1 uv P.seen.length (bos P.sure) * Sl 1 mv P.marks.length (ints P.marks)
theorem plD_eq {F : SP} {p d : Nat} {sv hv lv uv mv : Value} {hvs : List Value} {P : PlS} : F * PlC p d sv hv lv uv mv hvs P = F * PlD p d sv hv lv uv mv hvs P * Dev d P.s := by
  unfold PlC PlD; ac_rfl
theorem plD_p {F : SP} {p d : Nat} {sv hv lv uv mv : Value} {hvs : List Value} {P : PlS} : Has (F * PlD p d sv hv lv uv mv hvs P) p (cl (pcs d sv hv lv uv mv) 46) := by
  rw [show F * PlD p d sv hv lv uv mv hvs P = F * Words hvs P.held * Sl 1 sv P.seen.length (wds P.seen) * Sl 1 hv P.seen.length hvs * Sl 1 lv P.seen.length (wds P.last) * Sl 1 uv P.seen.length (bos P.sure) * Sl 1 mv P.marks.length (ints P.marks) * pt p (cl (pcs d sv hv lv uv mv) 46) by unfold PlD; ac_rfl]
  exact has_here
theorem plD_marks {F : SP} {p d : Nat} {sv hv lv uv mv : Value} {hvs : List Value} {P : PlS} {g : Gh} {w : World} (h : sat g w (F * PlD p d sv hv lv uv mv hvs P)) : ∃ a c, mv = .slice a P.marks.length c := by
  obtain ⟨a, c, e, _⟩ := sl_have (h.perm (B := F * pt p (cl (pcs d sv hv lv uv mv) 46) * Words hvs P.held * Sl 1 sv P.seen.length (wds P.seen) * Sl 1 hv P.seen.length hvs * Sl 1 lv P.seen.length (wds P.last) * Sl 1 uv P.seen.length (bos P.sure) * Sl 1 mv P.marks.length (ints P.marks)) (by unfold PlD; ac_rfl))
  exact ⟨a, c, e⟩
theorem begun_c {A : SP} {lines : Int} {a : Option Addr} {c m : Nat} {ss : List StepC} (n : Nat) (hn : n = 1 + wi lines 4 := by assumption) (hr : Rs A a (scs ss) := by repeat (first | assumption | with_reducible exact rs_sl | with_reducible exact rs_pt0 | exact rs_none | apply Rs.left)) (hm : ss.length = m := by first | assumption | rfl) (hss : ∀ t ∈ ss, t.v < 18446744073709551616 := by assumption) (hl : m + 16 ≤ 2199023255552 := by omega) :
    Fn Try.prog 26 #[.int .i64 lines, .slice a m c] A (fun r B => ∃ p d sv hv lv uv mv hvs, r = .tuple #[.pointer (some ⟨p, 0, none⟩), .bool true] ∧ B = A * PlD p d sv hv lv uv mv hvs (playL ss (begS n)) * Dev d (playL ss (begS n)).s) := by
  subst hm
  refine fn_rs hr fun hr => ?_
  exact (begun_f A lines a c n ss hn hr hss hl).mono fun _ _ ⟨p, d, sv, hv, lv, uv, mv, hvs, e, h⟩ => ⟨p, d, sv, hv, lv, uv, mv, hvs, e, by rw [h, plD_eq]⟩
theorem play_c {A R : SP} {C : SP → SP → SP} {p d : Nat} {sv hv lv uv mv : Value} {hvs : List Value} {P : PlS} {s : DevS} {t : StepC} (hc : Ct2 A (PlD p d sv hv lv uv mv hvs P) (Dev d s) R C := by repeat (first | with_reducible exact ct2_r (by repeat (first | with_reducible exact ct_here | apply ct_left)) | with_reducible exact ct2_l (by repeat (first | with_reducible exact ct_here | apply ct_left)) | apply ct2_left)) (hs : P.s = s := by first | assumption | rfl) (hP : WfP 1 P := by assumption) (hv64 : t.v < 18446744073709551616 := by assumption) :
    Fn Try.prog 45 #[.pointer (some ⟨p, 0, none⟩), .agg t.cells.toArray] A (fun r B => ∃ hvs' b P', stepP t.k t.q t.v P = (b, P') ∧ r = .bool b ∧ B = C (PlD p d sv hv lv uv mv hvs' P') (Dev d P'.s)) := by
  subst hs
  obtain ⟨rfl, hC⟩ := hc
  refine fn_eq plD_eq.symm ?_
  exact (play_f R p d t.v t.k t.q t.nv t.dv t.kv t.av sv hv lv uv mv hvs P hP hv64).mono fun _ _ ⟨hvs', h1, h2⟩ => ⟨hvs', (stepP t.k t.q t.v P).1, (stepP t.k t.q t.v P).2, rfl, h1, by rw [h2, hC, plD_eq]⟩


/-- A book beside a device on which a loss of power is planned. -/
def armP (after : Int) (keep : List Int) (Q : PlS) : PlS := { Q with s := { Q.s with arms := [(after, keep)], cnt := Q.s.ops } }
theorem wr_small {x : Int} (h : 0 ≤ x ∧ x ≤ 100) : wr64 x = x := by
  have : IntKind.i64.wrap x = x := by simp [IntKind.wrap, IntKind.bits, IntKind.signed]; omega
  exact this
theorem done_arm {s : DevS} {after : Int} {keep : List Int} (ho : 0 ≤ s.ops ∧ s.ops < after ∧ after ≤ 40) :
    (s.ops + 1 < after → doneE { s with arms := [(after, keep)], cnt := s.ops } = 0 ∧ doneS { s with arms := [(after, keep)], cnt := s.ops } = { s with ops := s.ops + 1, arms := [(after, keep)], cnt := s.ops + 1 }) ∧
    (s.ops + 1 = after → doneE { s with arms := [(after, keep)], cnt := s.ops } = 5 ∧ doneS { s with arms := [(after, keep)], cnt := s.ops } = goesS keep { s with ops := s.ops + 1, arms := [], cnt := 0 }) := by
  have hw : wr64 (s.ops + 1) = s.ops + 1 := wr_small (by omega)
  unfold doneE doneS
  simp only [hw]
  constructor
  · intro h
    rw [if_pos h, if_pos h]; exact ⟨rfl, rfl⟩
  · intro h
    rw [if_neg (by omega), if_neg (by omega)]; exact ⟨rfl, rfl⟩
theorem onLine_arm (f : LineS → LineS) (i : Nat) (s : DevS) (ar : List (Int × List Int)) (c : Int) : onLine f i { s with arms := ar, cnt := c } = { onLine f i s with arms := ar, cnt := c } := by
  unfold onLine; split <;> simp_all
/-- What one step does to both. -/
structure ArmStep (after : Int) (keep : List Int) (P' : Bool × PlS) (Q : PlS) (Q' : Bool × PlS) : Prop where
  ok : Q'.1 = true
  ops : P'.2.s.ops = Q'.2.s.ops
  near : Q'.2.s.ops = Q.s.ops ∨ Q'.2.s.ops = Q.s.ops + 1
  on : Q'.2.s.ops ≠ after → P' = (true, armP after keep Q'.2)
  gone : Q'.2.s.ops = after → P'.1 = false ∧ P'.2.s.off = true ∧ P'.2.s.arms = [] ∧ P'.2.s.ls = (goesS keep Q'.2.s).ls
theorem arm_core {s t : DevS} {after : Int} {keep : List Int} (ho : 0 ≤ s.ops ∧ s.ops < after ∧ after ≤ 40) (h1 : t.ops = s.ops) :
    (s.ops + 1 ≠ after → doneE { t with arms := [(after, keep)], cnt := s.ops } = 0 ∧ doneS { t with arms := [(after, keep)], cnt := s.ops } = { t with ops := s.ops + 1, arms := [(after, keep)], cnt := s.ops + 1 }) ∧
    (s.ops + 1 = after → doneE { t with arms := [(after, keep)], cnt := s.ops } = 5 ∧ doneS { t with arms := [(after, keep)], cnt := s.ops } = goesS keep { t with ops := s.ops + 1, arms := [], cnt := 0 }) := by
  obtain ⟨l1, o1, a1, c1, f1⟩ := t
  simp only at h1
  subst h1
  have := done_arm (s := ⟨l1, s.ops, a1, c1, f1⟩) (after := after) (keep := keep) ho
  exact ⟨fun h => this.1 (by show s.ops + 1 < after; omega), this.2⟩
theorem arm_step {r : Nat} {Q : PlS} (hQ : WfP (r + 1) Q) (hL : Live Q.s) {after : Int} (keep : List Int) (ho : 0 ≤ Q.s.ops ∧ Q.s.ops < after ∧ after ≤ 40) (k q : Int) (v : Nat) : ArmStep after keep (stepP k q v (armP after keep Q)) Q (stepP k q v Q) := by
  have hw0 : 0 < Q.seen.length := by have := hQ.seen; have := hQ.pos; omega
  have hwl := wi_lt (p := q) hw0
  have hsl := hQ.seen
  have hls := hQ.ls
  have hwr : wr64 (Q.s.ops + 1) = Q.s.ops + 1 := wr_small (by omega)
  obtain ⟨hok, _, hL'⟩ := step_ok hQ hL k q v
  have key : ∀ (t : DevS) (B : Bool) (f : DevS → PlS), t.ops = Q.s.ops → t.off = false →
      ArmStep after keep (decide (doneE { t with arms := [(after, keep)], cnt := Q.s.ops } = 0), f (doneS { t with arms := [(after, keep)], cnt := Q.s.ops })) Q (true, f { t with ops := Q.s.ops + 1 }) ∨ ¬ ((∀ s, (f s).s = s) ∧ (∀ s s', { f s with s := s' } = f s')) := by
    intro t B f h1 h2
    by_cases hf : (∀ s, (f s).s = s) ∧ (∀ s s', { f s with s := s' } = f s')
    · left
      obtain ⟨f1, f2⟩ := hf
      obtain ⟨g1, g2⟩ := arm_core (s := Q.s) (t := t) (keep := keep) ho h1
      by_cases ha : Q.s.ops + 1 = after
      · obtain ⟨e1, e2⟩ := g2 ha
        refine ⟨rfl, ?_, ?_, fun h => ?_, fun _ => ?_⟩
        · simp only [f1, e2]; rfl
        · right; simp only [f1]
        · exact absurd (by simp only [f1]; exact ha) h
        · simp only [f1, e1, e2]
          exact ⟨by decide, rfl, rfl, rfl⟩
      · obtain ⟨e1, e2⟩ := g1 ha
        refine ⟨rfl, ?_, ?_, fun h => ?_, fun h => ?_⟩
        · simp only [f1, e2]
        · right; simp only [f1]
        · simp only [e1, e2, armP, f1, f2, decide_true]
        · exact absurd (by simpa only [f1] using h) ha
    · exact .inr hf
  have use : ∀ (t : DevS) (f : DevS → PlS), t.ops = Q.s.ops → t.off = false → (∀ s, (f s).s = s) → (∀ s s', { f s with s := s' } = f s') →
      ArmStep after keep (decide (doneE { t with arms := [(after, keep)], cnt := Q.s.ops } = 0), f (doneS { t with arms := [(after, keep)], cnt := Q.s.ops })) Q (true, f { t with ops := Q.s.ops + 1 }) := fun t f h1 h2 h3 h4 =>
    (key t true f h1 h2).resolve_right (fun h => h ⟨h3, h4⟩)
  by_cases h2 : k = 2 ∨ k = 3
  · have hst : ∀ t : DevS, t.off = false → t.ls.length = Q.s.ls.length → st8 ((8 * wi q Q.seen.length : Nat) : Int) v t = (doneE (layS (8 * wi q Q.seen.length) v t), doneS (layS (8 * wi q Q.seen.length) v t)) := fun t ht hl => by
      unfold st8
      rw [ht, rdy_ok (by omega) (by omega) (by omega), if_neg (by decide), if_neg (by omega)]; rfl
    have hf := onLine_fields (layL (8 * wi q Q.seen.length % 64 / 8) v) (8 * wi q Q.seen.length / 64) Q.s
    have hq := st8_live hL (w := wi q Q.seen.length) (v := v) (by omega)
    have hlay : layS (8 * wi q Q.seen.length) v { Q.s with arms := [(after, keep)], cnt := Q.s.ops } = { layS (8 * wi q Q.seen.length) v Q.s with arms := [(after, keep)], cnt := Q.s.ops } := onLine_arm _ _ _ _ _
    have := use (layS (8 * wi q Q.seen.length) v Q.s) (fun s => ⟨s, Q.seen.set (wi q Q.seen.length) v, Q.held.set (wi q Q.seen.length) (Q.held.getD (wi q Q.seen.length) [] ++ [v]), Q.last, Q.sure.set (wi q Q.seen.length) false, if Q.marks.getD (wi q Q.seen.length / 8) 0 = 1 then Q.marks.set (wi q Q.seen.length / 8) 2 else Q.marks⟩)
      hf.1 (by unfold layS; rw [hf.2.2.2.1]; exact hL.off) (fun _ => rfl) (fun _ _ => rfl)
    unfold stepP
    rw [if_pos h2, if_pos h2, hq, hwr]
    simp only [armP]
    have e2 := hst { Q.s with arms := [(after, keep)], cnt := Q.s.ops } hL.off rfl
    rw [hlay] at e2
    simp only [e2]
    exact this
  by_cases h4 : k = 4
  · have hst : ∀ t : DevS, t.off = false → t.ls.length = Q.s.ls.length → fl1 ((8 * wi q Q.seen.length : Nat) : Int) t = (doneE (flushS (8 * wi q Q.seen.length) t), doneS (flushS (8 * wi q Q.seen.length) t)) := fun t ht hl => by
      unfold fl1
      rw [ht, rdy_ok (by omega) (by omega) (by omega), if_neg (by decide)]; rfl
    have hf := onLine_fields flushL (8 * wi q Q.seen.length / 64) Q.s
    have hq := fl1_live hL (w := wi q Q.seen.length) (by omega)
    have hlay : flushS (8 * wi q Q.seen.length) { Q.s with arms := [(after, keep)], cnt := Q.s.ops } = { flushS (8 * wi q Q.seen.length) Q.s with arms := [(after, keep)], cnt := Q.s.ops } := onLine_arm _ _ _ _ _
    have := use (flushS (8 * wi q Q.seen.length) Q.s) (fun s => { Q with s := s, marks := Q.marks.set (wi q Q.seen.length / 8) 1 })
      hf.1 (by unfold flushS; rw [hf.2.2.2.1]; exact hL.off) (fun _ => rfl) (fun _ _ => rfl)
    unfold stepP
    rw [if_neg h2, if_neg h2, if_pos h4, if_pos h4, hq, hwr]
    simp only [armP]
    have e2 := hst { Q.s with arms := [(after, keep)], cnt := Q.s.ops } hL.off rfl
    rw [hlay] at e2
    simp only [e2]
    exact this
  by_cases h5 : k = 5
  · have hq := fe_live hL
    have hp : fe { Q.s with arms := [(after, keep)], cnt := Q.s.ops } = (doneE { fenceS Q.s with arms := [(after, keep)], cnt := Q.s.ops }, doneS { fenceS Q.s with arms := [(after, keep)], cnt := Q.s.ops }) := by
      unfold fe; rw [if_neg (by rw [show ({ Q.s with arms := [(after, keep)], cnt := Q.s.ops } : DevS).off = Q.s.off from rfl, hL.off]; decide)]; rfl
    have := use (fenceS Q.s) (fun s => { Q with s := s, last := pm (lastF Q.marks Q.seen) Q.seen.length Q.last, sure := pm (sureF Q.marks) Q.seen.length Q.sure, marks := pm (fun _ _ => 0) Q.marks.length Q.marks }) rfl hL.off (fun _ => rfl) (fun _ _ => rfl)
    unfold stepP
    rw [if_neg h2, if_neg h2, if_neg h4, if_neg h4, if_pos h5, if_pos h5, hq, hwr]
    simp only [armP]
    simp only [hp]
    exact this
  · have e1 : stepP k q v Q = (true, Q) := by unfold stepP; rw [if_neg h2, if_neg h4, if_neg h5]
    have e2 : stepP k q v (armP after keep Q) = (true, armP after keep Q) := by unfold stepP; rw [if_neg h2, if_neg h4, if_neg h5]
    rw [e1, e2]
    exact ⟨rfl, rfl, .inl rfl, fun _ => rfl, fun h => by have : Q.s.ops = after := h; omega⟩
theorem plD_arm {p d : Nat} {sv hv lv uv mv : Value} {hvs : List Value} {after : Int} {keep : List Int} {Q : PlS} : PlD p d sv hv lv uv mv hvs (armP after keep Q) = PlD p d sv hv lv uv mv hvs Q := rfl
theorem armP_ls {after : Int} {keep : List Int} {Q : PlS} : (armP after keep Q).s.ls = Q.s.ls := rfl
theorem armP_wf {r : Nat} {Q : PlS} (h : WfP r Q) (after : Int) (keep : List Int) : WfP r (armP after keep Q) := ⟨h.pos, h.top, h.ls, h.seen, h.held, h.last, h.sure, h.room, h.hroom⟩
theorem ct_wf {A R : SP} {C : SP → SP} {d : Nat} {s : DevS} (hc : Ct A (Dev d s) R C) {g : Gh} {w : World} (hs : sat g w A) : WfD s := by
  obtain ⟨rfl, _⟩ := hc; exact (dev_iff.1 hs).1
theorem WfP.mono {r r' : Nat} {P : PlS} (h : WfP r P) (hr : r' ≤ r) : WfP r' P := ⟨h.pos, h.top, h.ls, h.seen, h.held, h.last, h.sure, fun l hl => by have := h.room l hl; omega, fun l hl => by have := h.hroom l hl; omega⟩
theorem room_goes {k : Nat} {keep : List Int} {s t : DevS} (h : s.ls = (goesS keep t).ls) (hk : k ≤ 1000) : Room k s := fun l hl => by
  rw [h] at hl
  simp only [goesS, goPart] at hl
  obtain ⟨j, hj, rfl⟩ := List.mem_iff_getElem.1 hl
  simp only [List.getElem_mapIdx]
  simp only [List.length_mapIdx] at hj
  rw [if_pos hj]; simp [goL]; omega
theorem img_ls {s t : DevS} (h : s.ls = t.ls) : imgS s = imgS t := by unfold imgS; rw [h]

end Go.Vl
