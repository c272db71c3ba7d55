/- vellumlaw08: a device is awake. Conditions: none. -/
import Derived.Test.YtimckjnnjakcoaaL8a
set_option linter.unusedVariables false
set_option linter.unusedSimpArgs false
namespace Go.Vl
open Go Go.Proofs


section
variable {F : SP} {d : Nat} {s : DevS}
theorem OpsD_f : Fn Try.prog 41 #[.pointer (some ⟨d, 0, none⟩)] (F * Dev d s) (fun r B => r = .int .i64 s.ops ∧ F * Dev d s = B) :=
  fn_devR0 fun _ A bl svs av hR => Ops_f A d bl s.ls.length s av hR.d hR.wf.pos hR.wf.top
theorem OffD_f : Fn Try.prog 31 #[.pointer (some ⟨d, 0, none⟩)] (F * Dev d s) (fun r B => r = .bool s.off ∧ F * Dev d s = B) :=
  fn_devR0 fun _ A bl svs av hR => Off_f A d bl s.ls.length s av hR.d hR.wf.pos hR.wf.top
theorem ImageD_f : Fn Try.prog 33 #[.pointer (some ⟨d, 0, none⟩)] (F * Dev d s) (fun r B => ∃ X, B = F * Dev d s * X ∧ X = Sl 1 r (s.ls.length * 64) (bys (imgS s))) :=
  fn_devR fun _ A bl svs av hR => Image_f A d bl svs av s hR
theorem LoadD_f {p m : Nat} {W : List Nat} (hoff : s.off = false) (hpm : p + m ≤ s.ls.length * 64) (hW : W = ((imgS s).drop p).take m) :
    Fn Try.prog 27 #[.pointer (some ⟨d, 0, none⟩), .int .i64 (p : Nat), .int .i64 (m : Nat)] (F * Dev d s) (fun r B => ∃ X, B = F * Dev d s * X ∧ ∃ u, r = .tuple #[u, .int .i64 0] ∧ X = Sl 1 u m (bys W)) :=
  fn_devR fun _ A bl svs av hR => Load_f A d bl svs av s p m W hR hoff hpm hW
theorem ContentsD_f {q : Nat} (hq : q < s.ls.length) :
    Fn Try.prog 35 #[.pointer (some ⟨d, 0, none⟩), .int .i64 (q : Nat)] (F * Dev d s) (fun r B => ∃ X, B = F * Dev d s * X ∧ ∃ vs, X = Parts vs (ctS q s) * Sl 1 r (ctS q s).length vs) :=
  fn_devR fun _ A bl svs av hR => Contents_f A d bl svs av s hR q hq
end
def aw1 : DevS := (st8 0 257 (newS 2)).2
def aw2 : DevS := (fl1 3 aw1).2
def aw3 : DevS := (st8 8 5 aw2).2
def aw4 : DevS := (fe aw3).2
def aw5 : DevS := goesS [] aw4
def aw6 : DevS := { aw5 with off := false }
theorem room_of {s : DevS} (k : Nat) (h : s.ls.all (fun l => decide (l.st.length + k ≤ 2199023255552)) = true) : Room k s := fun l hl => by
  rw [List.all_eq_true] at h; simpa using h l hl
def awB : List Nat := [1, 1, 0, 0, 0, 0, 0, 0, 0, 0, 0, 0, 0, 0, 0, 0]
theorem aw_img : ((imgS aw6).drop 0).take 16 = awB := by decide +kernel

theorem awake_f (A : SP) :
    Fn Try.prog 25 #[] (A) (fun r B => r = .bool true ∧ B = A) := by
  refine fn_enterW (args := []) Try.func25 rfl Try.ntmps25 (by simp) ?_
  refine tc_seq ?_
  refine tc_reg ?_
  refine tl_v rfl (o_assign rfl) ?_
  refine tl_nil ?_
  refine q_then_n ?_
  refine tc_seq ?_
  refine tc_reg ?_
  refine tl_c rfl (o_call bd51 rfl (New_f A 2 (by omega) (by omega))) ?_
  rintro u6 _ ⟨d, rfl, rfl⟩
  refine tl_v rfl (o_move rfl) ?_
  refine tl_v rfl (o_extract rfl rfl) ?_
  refine tl_v rfl (o_extract rfl rfl) ?_
  refine tl_v rfl (o_assign rfl) ?_
  refine tl_v rfl (o_assign rfl) ?_
  refine tl_nil ?_
  refine q_then_n ?_
  refine tc_seq ?_
  refine tc_seq ?_
  refine tc_reg ?_
  refine tl_v rfl (o_move rfl) ?_
  refine tl_v rfl (o_nei rfl rfl) ?_
  refine tl_v rfl (o_move rfl) ?_
  refine tl_bool (d := 11) rfl (fun h => ?_) (fun h => ?_)
  · (exfalso; first | (revert h; simp; done) | (revert h; simp; omega) | (simp at h; omega) | omega)
  · try simp only [decide_eq_true_eq, decide_eq_false_iff_not, Bool.not_eq_true', Bool.not_eq_false', Option.isNone_some, Option.isNone_none, Bool.not_true, Bool.not_false] at h
    refine tl_v rfl (o_move rfl) ?_
    refine tl_v rfl (o_eqp Try.underlying41 rfl rfl) ?_
    refine tl_v rfl (by first | exact o_pick_t rfl rfl | exact o_pick_f rfl rfl | exact o_pick rfl rfl) ?_
    refine tl_v rfl (o_move rfl) ?_
    refine tl_bool (d := 15) rfl (fun h => ?_) (fun h => ?_)
    · (exfalso; first | (revert h; simp; done) | (revert h; simp; omega) | (simp at h; omega) | omega)
    · try simp only [decide_eq_true_eq, decide_eq_false_iff_not, Bool.not_eq_true', Bool.not_eq_false', Option.isNone_some, Option.isNone_none, Bool.not_true, Bool.not_false] at h
      refine tl_v rfl (o_move rfl) ?_
      refine tl_c rfl (o_call bd40 rfl (Store8_f A d 257 0 (newS 2) (by omega) (by omega) (room_of 1 (by decide +kernel)))) ?_
      rintro _ _ ⟨rfl, rfl⟩
      refine tl_eq (show _ = A * Dev d aw1 from rfl) ?_
      refine tl_v rfl (o_nei rfl rfl) ?_
      refine tl_v rfl (by first | exact o_pick_t rfl rfl | exact o_pick_f rfl rfl | exact o_pick rfl rfl) ?_
      refine tl_v rfl (o_move rfl) ?_
      refine tl_bool (d := 20) rfl (fun h => ?_) (fun h => ?_)
      · exfalso; revert h; decide +kernel
      · try simp only [decide_eq_true_eq, decide_eq_false_iff_not, Bool.not_eq_true', Bool.not_eq_false', Option.isNone_some, Option.isNone_none, Bool.not_true, Bool.not_false] at h
        refine tl_v rfl (o_move rfl) ?_
        refine tl_c rfl (o_call bd87 rfl (Flush_f A d 3 aw1 (by omega))) ?_
        rintro _ _ ⟨rfl, rfl⟩
        refine tl_eq (show _ = A * Dev d aw2 from rfl) ?_
        refine tl_v rfl (o_nei rfl rfl) ?_
        refine tl_v rfl (by first | exact o_pick_t rfl rfl | exact o_pick_f rfl rfl | exact o_pick rfl rfl) ?_
        refine tl_v rfl (o_move rfl) ?_
        refine tl_bool (d := 25) rfl (fun h => ?_) (fun h => ?_)
        · exfalso; revert h; decide +kernel
        · try simp only [decide_eq_true_eq, decide_eq_false_iff_not, Bool.not_eq_true', Bool.not_eq_false', Option.isNone_some, Option.isNone_none, Bool.not_true, Bool.not_false] at h
          refine tl_v rfl (o_move rfl) ?_
          refine tl_c rfl (o_call bd40 rfl (Store8_f A d 5 8 aw2 (by omega) (by omega) (room_of 1 (by decide +kernel)))) ?_
          rintro _ _ ⟨rfl, rfl⟩
          refine tl_eq (show _ = A * Dev d aw3 from rfl) ?_
          refine tl_v rfl (o_nei rfl rfl) ?_
          refine tl_v rfl (by first | exact o_pick_t rfl rfl | exact o_pick_f rfl rfl | exact o_pick rfl rfl) ?_
          refine tl_v rfl (o_move rfl) ?_
          refine tl_bool (d := 30) rfl (fun h => ?_) (fun h => ?_)
          · exfalso; revert h; decide +kernel
          · try simp only [decide_eq_true_eq, decide_eq_false_iff_not, Bool.not_eq_true', Bool.not_eq_false', Option.isNone_some, Option.isNone_none, Bool.not_true, Bool.not_false] at h
            refine tl_v rfl (o_move rfl) ?_
            refine tl_c rfl (o_call bd47 rfl (Fence_f A d aw3)) ?_
            rintro _ _ ⟨rfl, rfl⟩
            refine tl_eq (show _ = A * Dev d aw4 from rfl) ?_
            refine tl_v rfl (o_nei rfl rfl) ?_
            refine tl_v rfl (by first | exact o_pick_t rfl rfl | exact o_pick_f rfl rfl | exact o_pick rfl rfl) ?_
            refine tl_v rfl (o_move rfl) ?_
            refine tl_bool (d := 35) rfl (fun h => ?_) (fun h => ?_)
            · exfalso; revert h; decide +kernel
            · try simp only [decide_eq_true_eq, decide_eq_false_iff_not, Bool.not_eq_true', Bool.not_eq_false', Option.isNone_some, Option.isNone_none, Bool.not_true, Bool.not_false] at h
              refine tl_v rfl (o_move rfl) ?_
              refine tl_c rfl (o_call bd41 rfl (OpsD_f)) ?_
              rintro _ _ ⟨rfl, rfl⟩
              refine tl_v rfl (o_nei rfl rfl) ?_
              refine tl_v rfl (by first | exact o_pick_t rfl rfl | exact o_pick_f rfl rfl | exact o_pick rfl rfl) ?_
              refine tl_v rfl (o_move rfl) ?_
              refine tl_bool (d := 40) rfl (fun h => ?_) (fun h => ?_)
              · exfalso; revert h; decide +kernel
              · try simp only [decide_eq_true_eq, decide_eq_false_iff_not, Bool.not_eq_true', Bool.not_eq_false', Option.isNone_some, Option.isNone_none, Bool.not_true, Bool.not_false] at h
                refine tl_v rfl (o_move rfl) ?_
                refine tl_c rfl (o_call bd35 rfl (ContentsD_f (q := 0) (by decide +kernel))) ?_
                rintro u42 _ ⟨_, rfl, vs42, rfl⟩
                refine tl_have (fun _ _ h => sl_have (R := A * Dev d aw4 * Parts vs42 (ctS 0 aw4)) (h.perm (star_assoc _ _ _).symm)) fun ⟨a42, c42, hv42, _, _, _⟩ => ?_
                subst hv42
                refine tl_pre (fun _ _ h => h.left) ?_
                refine tl_v rfl (o_len Try.underlying33 rfl) ?_
                refine tl_v rfl (o_nei rfl rfl) ?_
                refine tl_v rfl (by first | exact o_pick_t rfl rfl | exact o_pick_f rfl rfl | exact o_pick rfl rfl) ?_
                refine tl_nil ?_
                refine q_then_n ?_
                refine tc_cond rfl (fun h => ?_) (fun h => ?_)
                · exfalso; revert h; decide +kernel
                · try simp only [decide_eq_true_eq, decide_eq_false_iff_not, Bool.not_eq_true', Bool.not_eq_false', Option.isNone_some, Option.isNone_none, Bool.not_true, Bool.not_false] at h
                  refine tc_skip ?_
                  refine q_then_n ?_
                  refine tc_seq ?_
                  refine tc_seq ?_
                  refine tc_reg ?_
                  refine tl_v rfl (o_move rfl) ?_
                  refine tl_c rfl (o_call bd28 rfl (Crash_f A d 0 aw4 none [] rd_nil (by simp) (by simp))) ?_
                  rintro _ _ ⟨rfl, rfl⟩
                  refine tl_eq (show _ = A * Dev d aw5 from rfl) ?_
                  refine tl_v rfl (o_nei rfl rfl) ?_
                  refine tl_v rfl (o_move rfl) ?_
                  refine tl_bool (d := 49) rfl (fun h => ?_) (fun h => ?_)
                  · exfalso; revert h; decide +kernel
                  · try simp only [decide_eq_true_eq, decide_eq_false_iff_not, Bool.not_eq_true', Bool.not_eq_false', Option.isNone_some, Option.isNone_none, Bool.not_true, Bool.not_false] at h
                    refine tl_v rfl (o_move rfl) ?_
                    refine tl_c rfl (o_call bd31 rfl (OffD_f)) ?_
                    rintro _ _ ⟨rfl, rfl⟩
                    refine tl_v rfl (o_not rfl) ?_
                    refine tl_v rfl (by first | exact o_pick_t rfl rfl | exact o_pick_f rfl rfl | exact o_pick rfl rfl) ?_
                    refine tl_v rfl (o_move rfl) ?_
                    refine tl_bool (d := 54) rfl (fun h => ?_) (fun h => ?_)
                    · exfalso; revert h; decide +kernel
                    · try simp only [decide_eq_true_eq, decide_eq_false_iff_not, Bool.not_eq_true', Bool.not_eq_false', Option.isNone_some, Option.isNone_none, Bool.not_true, Bool.not_false] at h
                      refine tl_v rfl (o_move rfl) ?_
                      refine tl_c rfl (o_call bd32 rfl (Wake_f A d aw5)) ?_
                      rintro _ _ ⟨rfl, rfl⟩
                      refine tl_eq (show _ = A * Dev d aw6 from rfl) ?_
                      refine tl_v rfl (o_nei rfl rfl) ?_
                      refine tl_v rfl (by first | exact o_pick_t rfl rfl | exact o_pick_f rfl rfl | exact o_pick rfl rfl) ?_
                      refine tl_nil ?_
                      refine q_then_n ?_
                      refine tc_cond rfl (fun h => ?_) (fun h => ?_)
                      · exfalso; revert h; decide +kernel
                      · try simp only [decide_eq_true_eq, decide_eq_false_iff_not, Bool.not_eq_true', Bool.not_eq_false', Option.isNone_some, Option.isNone_none, Bool.not_true, Bool.not_false] at h
                        refine tc_skip ?_
                        refine q_then_n ?_
                        refine tc_seq ?_
                        refine tc_reg ?_
                        refine tl_v rfl (o_move rfl) ?_
                        refine tl_c rfl (o_call bd27 rfl (LoadD_f (p := 0) (m := 16) (W := awB) (by decide +kernel) (by decide +kernel) aw_img.symm)) ?_
                        rintro u61 _ ⟨_, rfl, u, rfl, rfl⟩
                        refine tl_have (fun _ _ h => sl_have h) fun ⟨a2, c2, hv2, _, _, hr2⟩ => ?_
                        subst hv2
                        refine tl_v rfl (o_move rfl) ?_
                        refine tl_v rfl (o_extract rfl rfl) ?_
                        refine tl_v rfl (o_extract rfl rfl) ?_
                        refine tl_v rfl (o_assign rfl) ?_
                        refine tl_v rfl (o_assign rfl) ?_
                        refine tl_nil ?_
                        refine q_then_n ?_
                        refine tc_seq ?_
                        refine tc_reg ?_
                        refine tl_v rfl (o_move rfl) ?_
                        refine tl_v rfl (o_eqi rfl rfl) ?_
                        refine tl_v rfl (o_move rfl) ?_
                        refine tl_bool (d := 66) rfl (fun h => ?_) (fun h => ?_)
                        · try simp only [decide_eq_true_eq, decide_eq_false_iff_not, Bool.not_eq_true', Bool.not_eq_false', Option.isNone_some, Option.isNone_none, Bool.not_true, Bool.not_false] at h
                          refine tl_v rfl (o_move rfl) ?_
                          refine tl_x rfl (o_buildSliceL (l := bys awB) Try.underlying28 sz5 z5 rfl rfl (by decide) (by decide) (by simp [Value.cells, ev]) rfl) ?_
                          rintro _ _ ⟨b68, rfl, rfl⟩
                          refine tl_c rfl (o_call bd22 rfl (EqBytes_f _ a2 (some ⟨b68, 0, none⟩) c2 16 awB awB hr2.left (rd_cells (cells_all has_here rfl)) (by decide) (by decide))) ?_
                          rintro _ _ ⟨rfl, rfl⟩
                          refine tl_v rfl (by first | exact o_pick_t rfl rfl | exact o_pick_f rfl rfl | exact o_pick rfl rfl) ?_
                          refine tl_v rfl (o_assign rfl) ?_
                          refine tl_nil ?_
                          refine q_then_n ?_
                          refine tc_ret ?_
                          exact ⟨.bool true, _, res1 rfl rfl, fun _ _ h => h.left.left.left, rfl, rfl⟩
                        · exfalso; revert h; decide +kernel

end Go.Vl
