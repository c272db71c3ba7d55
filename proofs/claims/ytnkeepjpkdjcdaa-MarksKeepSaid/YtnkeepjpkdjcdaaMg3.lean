/- What the row rests on, part 3: a calculus of assertions, walks of functions over it, and plain laws. Conditions: none. -/
import Derived.Deep.QuietTactic
import Derived.BigQuiet
import Derived.WalkKit
import Derived.Test.YtnkeepjpkdjcdaaProg
import Derived.OrdersHeld
import Derived.Laws.BytesArg
import Derived.Lib.Builder
import Derived.Lib.UnsafeStr
import Derived.RangeFuncRecord
import Derived.TacticsIn
import Derived.Deep.Slices
import Derived.OpenShut
import Derived.ChangeArms
import Derived.SizedLaws
import Derived.ChangeSame
import Derived.Test.YtnkeepjpkdjcdaaRows
import Derived.Lib.ConvBytes
import Derived.Laws.AppendOwn
import Derived.Sort.QuietThIn
import Derived.Test.YtnkeepjpkdjcdaaMg2
set_option linter.unusedVariables false
set_option linter.unusedSimpArgs false
namespace Go.Vl
open Go Go.Proofs
theorem Put32_c {A : SP} {a : Option Addr} {c m : Nat} {xs : List Nat} {v : Nat} (hr : Rs A a (bys xs) := by repeat (first | assumption | with_reducible exact rs_sl | with_reducible exact rs_pt0 | exact rs_none | apply Rs.left)) (hm : xs.length = m := by first | assumption | rfl) (hv : v < 4294967296 := by omega) (hl : m ≤ 1099511627776 := by omega) :
    Fn Try.prog 46 #[.slice a m c, .int .u32 (v : Nat)] A (fun r B => ∃ a' c', r = .slice a' (m + 4) c' ∧ m + 4 ≤ c' ∧ B = A * Sl 1 (.slice a' (m + 4) c') (m + 4) (bys (xs ++ le 4 v))) := by
  subst hm; exact fn_rs hr fun hr => fn_sl ((Put32_f A a c xs v hr hv hl).mono fun _ _ ⟨u, e, h⟩ => by rw [e]; exact h)
theorem Take32_c {A : SP} {a : Option Addr} {c m : Nat} {xs : List Nat} {p : Nat} (hr : Rs A a (bys xs) := by repeat (first | assumption | with_reducible exact rs_sl | with_reducible exact rs_pt0 | exact rs_none | apply Rs.left)) (hb : ∀ x ∈ xs, x < 256 := by assumption) (hm : xs.length = m := by first | assumption | rfl) (hp : p + 4 ≤ m := by omega) (hl : m ≤ 1099511627776 := by omega) :
    Fn Try.prog 52 #[.slice a m c, .int .i64 (p : Nat)] A (fun r B => r = .tuple #[.int .u32 ((nm ((xs.drop p).take 4) : Nat) : Int), .int .i64 0] ∧ A = B) := by
  subst hm; exact fn_rs hr fun hr => Take32_f A a c xs p hb hr hp hl
end Go.Vl

set_option linter.unusedVariables false
set_option linter.unusedSimpArgs false
namespace Go.Vl
open Go Go.Proofs
structure Ed where
  at_ : Int
  out : Int
  inn : Int
def Ed.cells (e : Ed) : List Value := [.int .i64 e.at_, .int .i64 e.out, .int .i64 e.inn]
structure EdW (e : Ed) : Prop where
  a : -9223372036854775808 ≤ e.at_ ∧ e.at_ ≤ 9223372036854775807
  o : -9223372036854775808 ≤ e.out ∧ e.out ≤ 9223372036854775807
  i : -9223372036854775808 ≤ e.inn ∧ e.inn ≤ 9223372036854775807
structure MkW (m : Mk) : Prop where
  id : m.id < 4294967296
  at_ : -9223372036854775808 ≤ m.at_ ∧ m.at_ ≤ 9223372036854775807
  gr : m.gr < 256
def edMay (e : Ed) : Bool := decide (0 ≤ e.at_ ∧ 0 ≤ e.out ∧ 0 ≤ e.inn ∧ e.out ≤ 9223372036854775807 - e.at_ ∧ e.inn ≤ 9223372036854775807 - e.at_)
theorem edMay_f {e : Ed} (h : ¬ (0 ≤ e.at_ ∧ 0 ≤ e.out ∧ 0 ≤ e.inn ∧ e.out ≤ 9223372036854775807 - e.at_ ∧ e.inn ≤ 9223372036854775807 - e.at_)) : edMay e = false := decide_eq_false h
/-- Where a place goes. -/
def goneS (e : Ed) (p : Int) (goes : Bool) : Option Int := if p < e.at_ then some p else if e.at_ + e.out < p then (if 9223372036854775807 - e.inn < p - e.out then none else some (p - e.out + e.inn)) else some (if goes then e.at_ + e.inn else e.at_)
def gnM (e : Ed) (x : Mk) : Option Int := goneS e x.at_ (decide (x.gr = 1))
def mvM (e : Ed) (x : Mk) : Mk := { x with at_ := (gnM e x).getD 0 }
def shL (e : Ed) (s : List Mk) (i : Nat) : List Mk := (s.take i).map (mvM e) ++ s.drop i
theorem shL_zero (e : Ed) (s : List Mk) : shL e s 0 = s := by simp [shL]
theorem shL_len {e : Ed} {s : List Mk} {i : Nat} (h : i ≤ s.length) : (shL e s i).length = s.length := by unfold shL; simp only [List.length_append, List.length_map, List.length_take, List.length_drop]; omega
theorem shL_at {e : Ed} {s : List Mk} {i : Nat} (h : i < s.length) : (shL e s i)[i]'(by rw [shL_len (by omega)]; exact h) = s[i] := by
  have h1 : (shL e s i)[i]? = some s[i] := by
    unfold shL
    rw [List.getElem?_append_right (by simp only [List.length_map, List.length_take]; omega)]
    simp only [List.length_map, List.length_take]
    rw [show i - min i s.length = 0 by omega, List.getElem?_drop, Nat.add_zero, List.getElem?_eq_getElem h]
  rw [List.getElem?_eq_getElem (by rw [shL_len (by omega)]; exact h)] at h1
  exact Option.some.inj h1
theorem shL_set {e : Ed} {s : List Mk} {i : Nat} (h : i < s.length) : (shL e s i).set i (mvM e s[i]) = shL e s (i + 1) := by
  unfold shL
  rw [List.set_append_right _ _ (by simp only [List.length_map, List.length_take]; omega)]
  simp only [List.length_map, List.length_take]
  rw [show i - min i s.length = 0 by omega, List.drop_eq_getElem_cons h, List.set_cons_zero, List.take_succ_eq_append_getElem h, List.map_append, List.append_assoc]; rfl
theorem shL_all {e : Ed} {s : List Mk} : shL e s s.length = s.map (mvM e) := by simp [shL]
theorem mcs_s1 {l : List Mk} {j : Nat} {v : Int} (h : j < l.length) : (mcs l).set (j * 3 + 1) (.int .i64 v) = mcs (l.set j { l[j] with at_ := v }) := fm_set (f := Mk.cells) (k := 3) (j := 1) (fun _ _ => rfl) h (by decide) rfl rfl
theorem mv_of {e : Ed} {x : Mk} {v : Int} (h : gnM e x = some v) : mvM e x = { x with at_ := v } := by unfold mvM; rw [h]; rfl
theorem shc1 {e : Ed} {s : List Mk} {i : Nat} {x : Mk} {v : Int} (hi : i < s.length) (hx : s[i] = x) (hg : gnM e x = some v) : shL e s (i + 1) = (shL e s i).set i { (shL e s i)[i]'(by rw [shL_len (by omega)]; exact hi) with at_ := v } := by
  rw [← shL_set hi, hx, mv_of hg, shL_at hi, hx]
theorem shc0 {e : Ed} {s : List Mk} {i : Nat} {x : Mk} (hi : i < s.length) (hx : s[i] = x) (hg : gnM e x = some x.at_) : shL e s (i + 1) = shL e s i := by
  rw [shc1 hi hx hg]
  have h1 := shL_at (e := e) hi
  have : { (shL e s i)[i]'(by rw [shL_len (by omega)]; exact hi) with at_ := x.at_ } = (shL e s i)[i]'(by rw [shL_len (by omega)]; exact hi) := by rw [h1, hx]
  rw [this]; exact set_getElem _
theorem shc2 {e : Ed} {s : List Mk} {i : Nat} {x : Mk} {u v : Int} (hi : i < s.length) (hx : s[i] = x) (hg : gnM e x = some v) : shL e s (i + 1) = ((shL e s i).set i { (shL e s i)[i]'(by rw [shL_len (by omega)]; exact hi) with at_ := u }).set i { ((shL e s i).set i { (shL e s i)[i]'(by rw [shL_len (by omega)]; exact hi) with at_ := u })[i]'(by rw [List.length_set, shL_len (by omega)]; exact hi) with at_ := v } := by
  rw [shc1 hi hx hg, List.set_set, List.getElem_set_self]
def shiftS (l : List Mk) (e : Ed) : List Mk × Int := if mayS l ≠ 0 then ([], mayS l) else if edMay e = false then ([], 2) else if (srt (ltc cId) l).all (fun x => (gnM e x).isSome) = true then ((srt (ltc cId) l).map (mvM e), 0) else ([], 2)
attribute [local irreducible] Sl pt ro SlB
set_option maxRecDepth 20000 in
set_option maxHeartbeats 2000000 in
theorem Shift_c {A : SP} {a : Option Addr} {c n : Nat} {l : List Mk} {e : Ed} (hr : Rs A a (mcs l) := by repeat (first | assumption | with_reducible exact rs_sl | with_reducible exact rs_pt0 | exact rs_none | apply Rs.left)) (hm : l.length = n := by first | assumption | rfl) (hW : ∀ x ∈ l, MkW x := by assumption) (hE : EdW e := by assumption) (hs : n ≤ 5864062014800 := by omega) :
    Fn Try.prog 12 #[.slice a n c, .agg e.cells.toArray] (A) (fun r B => ∃ a2 c2, r = .tuple #[.slice a2 (shiftS l e).1.length c2, .int .i64 (shiftS l e).2] ∧ (shiftS l e).1.length ≤ c2 ∧ B = A * Sl 3 (.slice a2 (shiftS l e).1.length c2) (shiftS l e).1.length (mcs (shiftS l e).1)) := by
  refine fn_enterW (args := [.slice a n c, .agg e.cells.toArray]) Try.func12 rfl Try.ntmps12 (by simp) ?_
  have hEa := hE.a
  have hEo := hE.o
  have hEi := hE.i
  refine sr ?_; refine tl_x rfl (o_box rfl rfl) ?_; rintro _ _ ⟨b3, rfl, rfl⟩; refine tla ?_; refine tla ?_; refine nq ?_; refine tc_seq ?_; refine sr ?_; refine tlm ?_; refine tl_c rfl (o_call bd32 rfl (may_c (l := l))) ?_; rintro _ _ ⟨rfl, rfl⟩; refine tla ?_; refine nq ?_; refine sr ?_; refine tlm ?_; refine tv (o_nei rfl rfl) ?_; refine nq ?_; refine tc_cond rfl (fun h => ?_) (fun h => ?_)
  · have hne : mayS l ≠ 0 := by simpa using h
    refine sr ?_; refine tlm ?_; refine tla ?_; refine tla ?_; refine nq ?_; refine tc_ret ?_; refine q_then_r ?_
    have e0 : shiftS l e = ([], mayS l) := by unfold shiftS; rw [if_pos hne]
    rw [e0]
    exact ⟨.tuple #[.slice none 0 0, .int .i64 (mayS l)], A * Sl 3 (.slice none 0 0) 0 [], res2 rfl rfl rfl, fun _ _ h => sl_nil (Dr.sat (by repeat (first | with_reducible exact dr_refl | apply dr_keep | apply dr_drop)) _ _ h), none, 0, rfl, Nat.le_refl _, rfl⟩
  · have hne : mayS l = 0 := by simpa using h
    have h32 := (may_zero hne).1
    have hok := (may_zero hne).2.1
    refine tc_skip ?_; refine q_then_n ?_; refine tc_seq ?_; refine tc_seq ?_; refine tc_cut (fun ρ BB => ∃ (bb : Bool), (bb = !edMay e) ∧ ρ 43 = .bool bb ∧ ρ 0 = .slice a n c ∧ ρ 3 = .pointer (some ⟨b3, 0, none⟩) ∧ BB = A * pt b3 (cl e.cells 24)) ?_ ?_
    · skip
      refine tc_reg ?_; refine tv (o_fieldAddr (o := 0) Try.underlying24 rfl rfl sz3 rfl) ?_; refine tv (by first | exact o_load p3 rfl (by repeat (first | with_reducible exact has_here | with_reducible exact has_pt | apply has_left)) rfl | exact o_loadC p3 rfl (by assumption)) ?_; refine tv (o_lss rfl rfl) ?_; refine tlm ?_; refine tl_bool (d := 18) rfl (fun h => ?_) (fun h => ?_)
      · have g18 : (e.at_ < 0) := by simpa using h
        refine tk ?_; refine tk ?_; refine tk ?_; refine tv (o_pick_t rfl (by conv => lhs; whnf)) ?_; refine tlm ?_; refine tk ?_; refine tk ?_; refine tk ?_; refine tv (o_pick_t rfl (by conv => lhs; whnf)) ?_; refine tlm ?_; refine tk ?_; refine tk ?_; refine tk ?_; refine tk ?_; refine tk ?_; refine tk ?_; refine tv (o_pick_t rfl (by conv => lhs; whnf)) ?_; refine tlm ?_; refine tk ?_; refine tk ?_; refine tk ?_; refine tk ?_; refine tk ?_; refine tk ?_; refine tv (o_pick_t rfl (by conv => lhs; whnf)) ?_; refine tl_nil ?_; exact ⟨_, by first | (rw [edMay_f (by omega)]; rfl) | (show decide (_ < _) = _; unfold edMay; rw [Bool.eq_iff_iff]; simp; omega), rfl, rfl, rfl, rfl⟩
      · have g18 : ¬ (e.at_ < 0) := by simpa using h
        refine tv (o_fieldAddr (o := 1) Try.underlying24 rfl rfl sz3 rfl) ?_; refine tv (by first | exact o_load p3 rfl (by repeat (first | with_reducible exact has_here | with_reducible exact has_pt | apply has_left)) rfl | exact o_loadC p3 rfl (by assumption)) ?_; refine tv (o_lss rfl rfl) ?_; refine tv (o_pick_f rfl (by conv => lhs; whnf)) ?_; refine tlm ?_; refine tl_bool (d := 23) rfl (fun h => ?_) (fun h => ?_)
        · have g23 : (e.out < 0) := by simpa using h
          refine tk ?_; refine tk ?_; refine tk ?_; refine tv (o_pick_t rfl (by conv => lhs; whnf)) ?_; refine tlm ?_; refine tk ?_; refine tk ?_; refine tk ?_; refine tk ?_; refine tk ?_; refine tk ?_; refine tv (o_pick_t rfl (by conv => lhs; whnf)) ?_; refine tlm ?_; refine tk ?_; refine tk ?_; refine tk ?_; refine tk ?_; refine tk ?_; refine tk ?_; refine tv (o_pick_t rfl (by conv => lhs; whnf)) ?_; refine tl_nil ?_; exact ⟨_, by first | (rw [edMay_f (by omega)]; rfl) | (show decide (_ < _) = _; unfold edMay; rw [Bool.eq_iff_iff]; simp; omega), rfl, rfl, rfl, rfl⟩
        · have g23 : ¬ (e.out < 0) := by simpa using h
          refine tv (o_fieldAddr (o := 2) Try.underlying24 rfl rfl sz3 rfl) ?_; refine tv (by first | exact o_load p3 rfl (by repeat (first | with_reducible exact has_here | with_reducible exact has_pt | apply has_left)) rfl | exact o_loadC p3 rfl (by assumption)) ?_; refine tv (o_lss rfl rfl) ?_; refine tv (o_pick_f rfl (by conv => lhs; whnf)) ?_; refine tlm ?_; refine tl_bool (d := 28) rfl (fun h => ?_) (fun h => ?_)
          · have g28 : (e.inn < 0) := by simpa using h
            refine tk ?_; refine tk ?_; refine tk ?_; refine tk ?_; refine tk ?_; refine tk ?_; refine tv (o_pick_t rfl (by conv => lhs; whnf)) ?_; refine tlm ?_; refine tk ?_; refine tk ?_; refine tk ?_; refine tk ?_; refine tk ?_; refine tk ?_; refine tv (o_pick_t rfl (by conv => lhs; whnf)) ?_; refine tl_nil ?_; exact ⟨_, by first | (rw [edMay_f (by omega)]; rfl) | (show decide (_ < _) = _; unfold edMay; rw [Bool.eq_iff_iff]; simp; omega), rfl, rfl, rfl, rfl⟩
          · have g28 : ¬ (e.inn < 0) := by simpa using h
            refine tv (o_fieldAddr (o := 1) Try.underlying24 rfl rfl sz3 rfl) ?_; refine tv (by first | exact o_load p3 rfl (by repeat (first | with_reducible exact has_here | with_reducible exact has_pt | apply has_left)) rfl | exact o_loadC p3 rfl (by assumption)) ?_; refine tv (o_fieldAddr (o := 0) Try.underlying24 rfl rfl sz3 rfl) ?_; refine tv (by first | exact o_load p3 rfl (by repeat (first | with_reducible exact has_here | with_reducible exact has_pt | apply has_left)) rfl | exact o_loadC p3 rfl (by assumption)) ?_; refine tv (o_subI rfl rfl (by omega)) ?_; refine tv (o_gtr rfl rfl) ?_; refine tv (o_pick_f rfl (by conv => lhs; whnf)) ?_; refine tlm ?_; refine tl_bool (d := 36) rfl (fun h => ?_) (fun h => ?_)
            · have g36 : (9223372036854775807 - e.at_ < e.out) := by simpa using h
              refine tk ?_; refine tk ?_; refine tk ?_; refine tk ?_; refine tk ?_; refine tk ?_; refine tv (o_pick_t rfl (by conv => lhs; whnf)) ?_; refine tl_nil ?_; exact ⟨_, by first | (rw [edMay_f (by omega)]; rfl) | (show decide (_ < _) = _; unfold edMay; rw [Bool.eq_iff_iff]; simp; omega), rfl, rfl, rfl, rfl⟩
            · have g36 : ¬ (9223372036854775807 - e.at_ < e.out) := by simpa using h
              refine tv (o_fieldAddr (o := 2) Try.underlying24 rfl rfl sz3 rfl) ?_; refine tv (by first | exact o_load p3 rfl (by repeat (first | with_reducible exact has_here | with_reducible exact has_pt | apply has_left)) rfl | exact o_loadC p3 rfl (by assumption)) ?_; refine tv (o_fieldAddr (o := 0) Try.underlying24 rfl rfl sz3 rfl) ?_; refine tv (by first | exact o_load p3 rfl (by repeat (first | with_reducible exact has_here | with_reducible exact has_pt | apply has_left)) rfl | exact o_loadC p3 rfl (by assumption)) ?_; refine tv (o_subI rfl rfl (by omega)) ?_; refine tv (o_gtr rfl rfl) ?_; refine tv (o_pick_f rfl (by conv => lhs; whnf)) ?_; refine tl_nil ?_; exact ⟨_, by first | (rw [edMay_f (by omega)]; rfl) | (show decide (_ < _) = _; unfold edMay; rw [Bool.eq_iff_iff]; simp; omega), rfl, rfl, rfl, rfl⟩
    · intro ρ B hI
      obtain ⟨bb, hbb0, hE43, hE0, hE3, rfl⟩ := hI
      refine q_then_n ?_; refine tc_env (d := 43) hE43 ?_; refine tc_env (d := 0) hE0 ?_; refine tc_env (d := 3) hE3 ?_
      clear hE43 hE0 hE3
      refine tc_cond rfl (fun h => ?_) (fun h => ?_)
      · have hem : edMay e = false := by rw [h] at hbb0; simpa using hbb0
        refine sr ?_; refine tla ?_; refine tla ?_; refine nq ?_; refine tc_ret ?_; refine q_then_r ?_
        have e0 : shiftS l e = ([], 2) := by unfold shiftS; rw [if_neg (by simpa using hne), if_pos hem]
        rw [e0]
        exact ⟨.tuple #[.slice none 0 0, .int .i64 (2)], A * Sl 3 (.slice none 0 0) 0 [], res2 rfl rfl rfl, fun _ _ h => sl_nil (Dr.sat (by repeat (first | with_reducible exact dr_refl | apply dr_keep | apply dr_drop)) _ _ h), none, 0, rfl, Nat.le_refl _, rfl⟩
      · have hem : edMay e = true := by rw [h] at hbb0; simpa using hbb0
        have hem2 := of_decide_eq_true hem
        refine tc_skip ?_; refine q_then_n ?_; refine sr ?_; refine tlm ?_; refine tl_c rfl (o_call bd33 rfl (ordered_c (l := l) ordId cId_swo)) ?_; rintro _ _ ⟨a45, c45, rfl, hc45, rfl⟩
        have hsl : (srt (ltc cId) l).length = n := by rw [srt_length cId_swo]; assumption
        refine tla ?_; refine nq ?_; refine tc_seq ?_; refine sr ?_; refine tlm ?_; refine tv (o_len Try.underlying22 rfl) ?_; refine tlm ?_; refine nq ?_; refine tc_block ?_; refine tc_loop (fun kk ρ BB => ∃ (i : Nat), (i ≤ n) ∧ (∀ x ∈ (srt (ltc cId) l).take i, (gnM e x).isSome = true) ∧ kk = n - i ∧ ρ 48 = .int .i64 (i : Nat) ∧ ρ 3 = .pointer (some ⟨b3, 0, none⟩) ∧ ρ 7 = .slice a45 n c45 ∧ ρ 47 = .int .i64 (n : Nat) ∧ BB = A * pt b3 (cl e.cells 24) * Sl 3 (.slice a45 n c45) n (mcs (shL e (srt (ltc cId) l) i))) (m := n - (0)) ?_ ?_
        · exact ⟨0, by omega, by simp, rfl, rfl, rfl, rfl, rfl, by rw [shL_zero]⟩
        · intro k ρ B hI
          obtain ⟨i, hp0, hp1, hkk1, hE48, hE3, hE7, hE47, rfl⟩ := hI
          refine tc_env (d := 48) hE48 ?_; refine tc_env (d := 3) hE3 ?_; refine tc_env (d := 7) hE7 ?_; refine tc_env (d := 47) hE47 ?_
          clear hE48 hE3 hE7 hE47
          refine sr ?_; refine tv (o_lss rfl rfl) ?_; refine nq ?_; refine tc_seq ?_; refine tc_cond rfl (fun h => ?_) (fun h => ?_)
          · have hi : i < (srt (ltc cId) l).length := by first | omega | (simp at h; omega)
            have hsh := shL_len (e := e) (s := srt (ltc cId) l) (i := i) (by omega)
            refine tc_have (fun g w h => nn_sl (by decide) g w h (show 0 < n by omega)) fun ⟨bi, oi, ei⟩ => ?_
            subst ei
            obtain ⟨x, hx⟩ : ∃ x, (srt (ltc cId) l)[i] = x := ⟨_, rfl⟩
            have hxm : x ∈ l := (srt_mem cId_swo).1 (hx ▸ List.getElem_mem hi)
            have hxW := (hW x hxm).at_
            have hxo : okM x = true := List.all_eq_true.1 hok x hxm
            have hx0 : 0 ≤ x.at_ := by unfold okM at hxo; simp only [Bool.and_eq_true, decide_eq_true_eq] at hxo; exact hxo.1
            have hat := shL_at (e := e) hi
            have hf1 : (mcs (shL e (srt (ltc cId) l) i))[i * 3 + 1]? = some (.int .i64 x.at_) := by rw [mcs_f1 (by omega), hat, hx]
            have hf2 : (mcs (shL e (srt (ltc cId) l) i))[i * 3 + 2]? = some (.int .u8 (x.gr : Nat)) := by rw [mcs_f2 (by omega), hat, hx]
            refine tc_skip ?_; refine q_then_n ?_; refine tc_seq ?_; refine tc_block ?_; refine sr ?_; refine tlm ?_; refine tla ?_; refine nq ?_; refine sr ?_; refine tlm ?_; refine tlm ?_; refine tv (o_ixP (a := some ⟨bi, oi, none⟩) Try.underlying22 sz35 rfl rfl (by omega) nn_some) ?_; refine tla ?_; refine nq ?_; refine tc_block ?_; refine tc_seq ?_; refine tc_regq mo (by kernel_rfl) ?_; refine ql_v rfl (o_move (by conv => lhs; whnf)) ?_; refine ql_v rfl (o_ncP (a := some ⟨bi, oi, none⟩) (m := 0) rfl nn_some) ?_; refine ql_v rfl (o_faP (a := some ⟨bi, oi, none⟩) (m := 0) (o := 1) Try.underlying35 rfl rfl sz3 rfl nn_some) ?_; refine ql_v rfl (o_ldP (a := some ⟨bi, oi, none⟩) p3 rfl (by repeat (first | with_reducible exact rs_sl | apply Rs.left)) (hf1)) ?_; refine ql_v rfl (o_fieldAddr (o := 0) Try.underlying24 rfl rfl sz3 rfl) ?_; refine ql_v rfl (by first | exact o_load p3 rfl (by repeat (first | with_reducible exact has_here | with_reducible exact has_pt | apply has_left)) rfl | exact o_loadC p3 rfl (by assumption)) ?_; refine ql_v rfl (o_lss rfl rfl) ?_; refine ql_v rfl (o_assign (by conv => lhs; whnf)) ?_
            refine ql_nil ?_; refine q_then_n ?_; refine tc_cond rfl (fun h => ?_) (fun h => ?_)
            · have c1 : x.at_ < e.at_ := by first | exact of_decide_eq_true h | exact h | simpa using h
              have hg : gnM e x = some x.at_ := by unfold gnM goneS; rw [if_pos c1]
              refine tc_skip ?_; refine q_block_n (q_block_n (q_then_n ?_)); refine tc_reg ?_; refine tv (by first | exact o_addI rfl rfl (by omega) | exact o_add rfl rfl) ?_; refine tlm ?_; refine nq ?_; exact ⟨_, by omega, i + 1, by omega, by rw [List.take_succ_eq_append_getElem (by omega)]; intro y hy; rcases List.mem_append.1 hy with h1 | h1; exact hp1 y h1; rw [List.mem_singleton.1 h1, hx, hg]; rfl, rfl, rfl, rfl, rfl, rfl, by first | (rw [shc0 hi hx hg]; done) | (rw [shc1 hi hx hg]; done) | (rw [shc2 (u := x.at_ - e.out) hi hx hg]; first | done | rfl)⟩
            · have c1 : ¬ x.at_ < e.at_ := by first | exact of_decide_eq_false h | exact h | simpa using h
              refine tc_seq ?_; refine tc_regq mo (by kernel_rfl) ?_; refine ql_v rfl (o_move (by conv => lhs; whnf)) ?_; refine ql_v rfl (o_ncP (a := some ⟨bi, oi, none⟩) (m := 0) rfl nn_some) ?_; refine ql_v rfl (o_faP (a := some ⟨bi, oi, none⟩) (m := 0) (o := 1) Try.underlying35 rfl rfl sz3 rfl nn_some) ?_; refine ql_v rfl (o_ldP (a := some ⟨bi, oi, none⟩) p3 rfl (by repeat (first | with_reducible exact rs_sl | apply Rs.left)) (hf1)) ?_; refine ql_v rfl (o_fieldAddr (o := 0) Try.underlying24 rfl rfl sz3 rfl) ?_; refine ql_v rfl (by first | exact o_load p3 rfl (by repeat (first | with_reducible exact has_here | with_reducible exact has_pt | apply has_left)) rfl | exact o_loadC p3 rfl (by assumption)) ?_; refine ql_v rfl (o_fieldAddr (o := 1) Try.underlying24 rfl rfl sz3 rfl) ?_; refine ql_v rfl (by first | exact o_load p3 rfl (by repeat (first | with_reducible exact has_here | with_reducible exact has_pt | apply has_left)) rfl | exact o_loadC p3 rfl (by assumption)) ?_; refine ql_v rfl (o_addI rfl rfl (by omega)) ?_; refine ql_v rfl (o_gtr rfl rfl) ?_; refine ql_v rfl (o_assign (by conv => lhs; whnf)) ?_; refine ql_nil ?_; refine q_then_n ?_; refine tc_cond rfl (fun h => ?_) (fun h => ?_)
              · have c2 : e.at_ + e.out < x.at_ := by first | exact of_decide_eq_true h | exact h | simpa using h
                refine tc_seq ?_; refine tc_regh (S := A * pt b3 (cl e.cells 24)) mo (by repeat (first | with_reducible exact dr_refl | apply dr_keep | apply dr_drop)) ?_
                show TH _ _ _ _ _ 10 #[ff,ff,ff,ff,ff,ff,ff,ff,ff,ff] _ _
                refine th_take (i := 0) (listed' := #[tt,ff,ff,ff,ff,ff,ff,ff,ff,ff]) rfl (by kernel_rfl) (by kernel_rfl) (by kernel_rfl) rfl rfl (o_move (by conv => lhs; whnf)) ?_; refine th_take (i := 1) (listed' := #[tt,tt,ff,ff,ff,ff,ff,ff,ff,ff]) rfl (by kernel_rfl) (by kernel_rfl) (by kernel_rfl) rfl rfl (o_ncP (a := some ⟨bi, oi, none⟩) (m := 0) rfl nn_some) ?_; refine th_take (i := 2) (listed' := #[tt,tt,tt,ff,ff,ff,ff,ff,ff,ff]) rfl (by kernel_rfl) (by kernel_rfl) (by kernel_rfl) rfl rfl (o_faP (a := some ⟨bi, oi, none⟩) (m := 0) (o := 1) Try.underlying35 rfl rfl sz3 rfl nn_some) ?_; refine th_take (i := 4) (listed' := #[tt,tt,tt,ff,tt,ff,ff,ff,ff,ff]) rfl (by kernel_rfl) (by kernel_rfl) (by kernel_rfl) rfl rfl (o_fieldAddr (o := 1) Try.underlying24 rfl rfl sz3 rfl) ?_; refine th_take (i := 5) (listed' := #[tt,tt,tt,ff,tt,tt,ff,ff,ff,ff]) rfl (by kernel_rfl) (by kernel_rfl) (by kernel_rfl) rfl rfl (by first | exact o_load p3 rfl (by repeat (first | with_reducible exact has_here | with_reducible exact has_pt | apply has_left)) rfl | exact o_loadC p3 rfl (by assumption)) ?_; refine th_one (i := 3) (by kernel_rfl) ?_; refine oh_v (i := 3) (listed' := #[tt,tt,tt,tt,tt,tt,ff,ff,ff,ff]) rfl rfl rfl (o_ldP (a := some ⟨bi, oi, none⟩) p3 rfl (by repeat (first | with_reducible exact rs_sl | apply Rs.left)) (hf1)) ?_; refine th_take (i := 6) (listed' := #[tt,tt,tt,tt,tt,tt,tt,ff,ff,ff]) rfl (by kernel_rfl) (by kernel_rfl) (by kernel_rfl) rfl rfl (o_subI rfl rfl (by omega)) ?_
                refine th_take (i := 7) (listed' := #[tt,tt,tt,tt,tt,tt,tt,tt,ff,ff]) rfl (by kernel_rfl) (by kernel_rfl) (by kernel_rfl) rfl rfl (o_ncP (a := some ⟨bi, oi, none⟩) (m := 0) rfl nn_some) ?_; refine th_take (i := 8) (listed' := #[tt,tt,tt,tt,tt,tt,tt,tt,tt,ff]) rfl (by kernel_rfl) (by kernel_rfl) (by kernel_rfl) rfl rfl (o_faP (a := some ⟨bi, oi, none⟩) (m := 0) (o := 1) Try.underlying35 rfl rfl sz3 rfl nn_some) ?_; refine th_one (i := 9) (by kernel_rfl) ?_; refine oh_u (i := 9) (listed' := #[tt,tt,tt,tt,tt,tt,tt,tt,tt,tt]) rfl rfl rfl (o_stP (a := some ⟨bi, oi, none⟩) sz3 rfl rfl rfl (by repeat (first | with_reducible exact ct_here | apply ct_left)) (by omega) (mcs_s1 (l := shL e (srt (ltc cId) l) i) (v := x.at_ - e.out) (by omega))) (by repeat (first | with_reducible exact dr_refl | apply dr_keep | apply dr_drop)) ?_; refine th_done (by kernel_rfl) ?_; refine q_then_n ?_; refine tc_seq ?_; refine tc_seq ?_
                have hl2 : ((shL e (srt (ltc cId) l) i).set i { (shL e (srt (ltc cId) l) i)[i]'(by omega) with at_ := x.at_ - e.out }).length = n := by rw [List.length_set]; omega
                have hf3 : (mcs ((shL e (srt (ltc cId) l) i).set i { (shL e (srt (ltc cId) l) i)[i]'(by omega) with at_ := x.at_ - e.out }))[i * 3 + 1]? = some (.int .i64 (x.at_ - e.out)) := by rw [mcs_f1 (by omega), List.getElem_set_self]
                refine tc_regq mo (by kernel_rfl) ?_; refine ql_v rfl (o_move (by conv => lhs; whnf)) ?_; refine ql_v rfl (o_ncP (a := some ⟨bi, oi, none⟩) (m := 0) rfl nn_some) ?_; refine ql_v rfl (o_faP (a := some ⟨bi, oi, none⟩) (m := 0) (o := 1) Try.underlying35 rfl rfl sz3 rfl nn_some) ?_; refine ql_v rfl (o_ldP (a := some ⟨bi, oi, none⟩) p3 rfl (by repeat (first | with_reducible exact rs_sl | apply Rs.left)) (hf3)) ?_; refine ql_v rfl (o_fieldAddr (o := 2) Try.underlying24 rfl rfl sz3 rfl) ?_; refine ql_v rfl (by first | exact o_load p3 rfl (by repeat (first | with_reducible exact has_here | with_reducible exact has_pt | apply has_left)) rfl | exact o_loadC p3 rfl (by assumption)) ?_; refine ql_v rfl (o_subI rfl rfl (by omega)) ?_; refine ql_v rfl (o_gtr rfl rfl) ?_; refine ql_nil ?_; refine q_then_n ?_; refine tc_cond rfl (fun h => ?_) (fun h => ?_)
                · have c3 : 9223372036854775807 - e.inn < x.at_ - e.out := by first | exact of_decide_eq_true h | exact h | simpa using h
                  have hg : gnM e x = none := by unfold gnM goneS; rw [if_neg c1, if_pos c2, if_pos c3]
                  refine sr ?_; refine tla ?_; refine tla ?_; refine nq ?_; refine tc_ret ?_; refine q_then_r (q_block_r (q_block_r (q_then_r (q_then_r (q_block_r (q_then_r ?_))))))
                  have e0 : shiftS l e = ([], 2) := by unfold shiftS; rw [if_neg (by simpa using hne), if_neg (by rw [hem]; decide), if_neg (fun hc => by have := List.all_eq_true.1 hc x (hx ▸ List.getElem_mem hi); rw [hg] at this; cases this)]
                  rw [e0]
                  exact ⟨.tuple #[.slice none 0 0, .int .i64 2], A * Sl 3 (.slice none 0 0) 0 [], res2 rfl rfl rfl, fun _ _ h => sl_nil (Dr.sat (by repeat (first | with_reducible exact dr_refl | apply dr_keep | apply dr_drop)) _ _ h), none, 0, rfl, Nat.le_refl _, rfl⟩
                · have c3 : ¬ 9223372036854775807 - e.inn < x.at_ - e.out := by first | exact of_decide_eq_false h | exact h | simpa using h
                  have hg : gnM e x = some (x.at_ - e.out + e.inn) := by unfold gnM goneS; rw [if_neg c1, if_pos c2, if_neg c3]
                  refine tc_skip ?_; refine q_then_n ?_; refine tc_regh (S := A * pt b3 (cl e.cells 24)) mo (by repeat (first | with_reducible exact dr_refl | apply dr_keep | apply dr_drop)) ?_
                  show TH _ _ _ _ _ 10 #[ff,ff,ff,ff,ff,ff,ff,ff,ff,ff] _ _
                  refine th_take (i := 0) (listed' := #[tt,ff,ff,ff,ff,ff,ff,ff,ff,ff]) rfl (by kernel_rfl) (by kernel_rfl) (by kernel_rfl) rfl rfl (o_move (by conv => lhs; whnf)) ?_; refine th_take (i := 1) (listed' := #[tt,tt,ff,ff,ff,ff,ff,ff,ff,ff]) rfl (by kernel_rfl) (by kernel_rfl) (by kernel_rfl) rfl rfl (o_ncP (a := some ⟨bi, oi, none⟩) (m := 0) rfl nn_some) ?_; refine th_take (i := 2) (listed' := #[tt,tt,tt,ff,ff,ff,ff,ff,ff,ff]) rfl (by kernel_rfl) (by kernel_rfl) (by kernel_rfl) rfl rfl (o_faP (a := some ⟨bi, oi, none⟩) (m := 0) (o := 1) Try.underlying35 rfl rfl sz3 rfl nn_some) ?_; refine th_take (i := 4) (listed' := #[tt,tt,tt,ff,tt,ff,ff,ff,ff,ff]) rfl (by kernel_rfl) (by kernel_rfl) (by kernel_rfl) rfl rfl (o_fieldAddr (o := 2) Try.underlying24 rfl rfl sz3 rfl) ?_; refine th_take (i := 5) (listed' := #[tt,tt,tt,ff,tt,tt,ff,ff,ff,ff]) rfl (by kernel_rfl) (by kernel_rfl) (by kernel_rfl) rfl rfl (by first | exact o_load p3 rfl (by repeat (first | with_reducible exact has_here | with_reducible exact has_pt | apply has_left)) rfl | exact o_loadC p3 rfl (by assumption)) ?_; refine th_one (i := 3) (by kernel_rfl) ?_; refine oh_v (i := 3) (listed' := #[tt,tt,tt,tt,tt,tt,ff,ff,ff,ff]) rfl rfl rfl (o_ldP (a := some ⟨bi, oi, none⟩) p3 rfl (by repeat (first | with_reducible exact rs_sl | apply Rs.left)) (hf3)) ?_; refine th_take (i := 6) (listed' := #[tt,tt,tt,tt,tt,tt,tt,ff,ff,ff]) rfl (by kernel_rfl) (by kernel_rfl) (by kernel_rfl) rfl rfl (o_addI rfl rfl (by omega)) ?_
                  refine th_take (i := 7) (listed' := #[tt,tt,tt,tt,tt,tt,tt,tt,ff,ff]) rfl (by kernel_rfl) (by kernel_rfl) (by kernel_rfl) rfl rfl (o_ncP (a := some ⟨bi, oi, none⟩) (m := 0) rfl nn_some) ?_; refine th_take (i := 8) (listed' := #[tt,tt,tt,tt,tt,tt,tt,tt,tt,ff]) rfl (by kernel_rfl) (by kernel_rfl) (by kernel_rfl) rfl rfl (o_faP (a := some ⟨bi, oi, none⟩) (m := 0) (o := 1) Try.underlying35 rfl rfl sz3 rfl nn_some) ?_; refine th_one (i := 9) (by kernel_rfl) ?_; refine oh_u (i := 9) (listed' := #[tt,tt,tt,tt,tt,tt,tt,tt,tt,tt]) rfl rfl rfl (o_stP (a := some ⟨bi, oi, none⟩) sz3 rfl rfl rfl (by repeat (first | with_reducible exact ct_here | apply ct_left)) (by omega) (mcs_s1 (l := (shL e (srt (ltc cId) l) i).set i { (shL e (srt (ltc cId) l) i)[i]'(by try omega) with at_ := x.at_ - e.out }) (v := x.at_ - e.out + e.inn) (by omega))) (by repeat (first | with_reducible exact dr_refl | apply dr_keep | apply dr_drop)) ?_; refine th_done (by kernel_rfl) ?_; refine q_block_n (q_block_n (q_then_n ?_)); refine tc_reg ?_; refine tv (by first | exact o_addI rfl rfl (by omega) | exact o_add rfl rfl) ?_; refine tlm ?_; refine nq ?_; exact ⟨_, by omega, i + 1, by omega, by rw [List.take_succ_eq_append_getElem (by omega)]; intro y hy; rcases List.mem_append.1 hy with h1 | h1; exact hp1 y h1; rw [List.mem_singleton.1 h1, hx, hg]; rfl, rfl, rfl, rfl, rfl, rfl, by first | (rw [shc0 hi hx hg]; done) | (rw [shc1 hi hx hg]; done) | (rw [shc2 (u := x.at_ - e.out) hi hx hg]; first | done | rfl)⟩
              · have c2 : ¬ e.at_ + e.out < x.at_ := by first | exact of_decide_eq_false h | exact h | simpa using h
                refine sr ?_; refine tlm ?_; refine tv (o_ncP (m := 0) rfl (by repeat (first | exact nn_some | with_reducible exact nn_sl (by decide) | exact nn_rs (by assumption) (fun _ => by first | omega | (simp only [bys_length, ints_length, wds_length, bos_length, List.length_append, List.length_take, List.length_drop, List.length_singleton]; omega)) | apply Nn.left))) ?_; refine tv (o_faP (m := 0) (o := 2) Try.underlying35 rfl rfl sz5 rfl (by repeat (first | exact nn_some | with_reducible exact nn_sl (by decide) | exact nn_rs (by assumption) (fun _ => by first | omega | (simp only [bys_length, ints_length, wds_length, bos_length, List.length_append, List.length_take, List.length_drop, List.length_singleton]; omega)) | apply Nn.left))) ?_; refine tv (o_ldP p5 rfl (by repeat (first | assumption | with_reducible exact rs_sl | with_reducible exact rs_pt0 | exact rs_none | apply Rs.left)) (by first | assumption | exact bys_at (by omega) | exact ints_at (by omega) | exact wds_at (by omega) | exact bos_at (by omega) | rfl)) ?_; refine tv (o_eqi rfl rfl) ?_; refine tla ?_; refine nq ?_; refine tc_cond rfl (fun h => ?_) (fun h => ?_)
                · have c4 : x.gr = 1 := by first | omega | (simp at h; omega)
                  have hg : gnM e x = some (e.at_ + e.inn) := by unfold gnM goneS; rw [if_neg c1, if_neg c2, if_pos (decide_eq_true c4)]
                  refine tc_reg ?_; refine tlm ?_; refine tv (o_fieldAddr (o := 0) Try.underlying24 rfl rfl sz3 rfl) ?_; refine tv (by first | exact o_load p3 rfl (by repeat (first | with_reducible exact has_here | with_reducible exact has_pt | apply has_left)) rfl | exact o_loadC p3 rfl (by assumption)) ?_; refine tv (o_fieldAddr (o := 2) Try.underlying24 rfl rfl sz3 rfl) ?_; refine tv (by first | exact o_load p3 rfl (by repeat (first | with_reducible exact has_here | with_reducible exact has_pt | apply has_left)) rfl | exact o_loadC p3 rfl (by assumption)) ?_; refine tv (o_addI rfl rfl (by omega)) ?_; refine tv (o_ncP (a := some ⟨bi, oi, none⟩) (m := 0) rfl nn_some) ?_; refine tv (o_faP (a := some ⟨bi, oi, none⟩) (m := 0) (o := 1) Try.underlying35 rfl rfl sz3 rfl nn_some) ?_; refine tl_u rfl (o_stP (a := some ⟨bi, oi, none⟩) sz3 rfl rfl rfl (by repeat (first | with_reducible exact ct_here | apply ct_left)) (by omega) (mcs_s1 (l := shL e (srt (ltc cId) l) i) (v := e.at_ + e.inn) (by omega))) ?_; refine tl_nil ?_; refine q_block_n (q_block_n (q_then_n ?_)); refine tc_reg ?_; refine tv (by first | exact o_addI rfl rfl (by omega) | exact o_add rfl rfl) ?_; refine tlm ?_; refine nq ?_
                  exact ⟨_, by omega, i + 1, by omega, by rw [List.take_succ_eq_append_getElem (by omega)]; intro y hy; rcases List.mem_append.1 hy with h1 | h1; exact hp1 y h1; rw [List.mem_singleton.1 h1, hx, hg]; rfl, rfl, rfl, rfl, rfl, rfl, by first | (rw [shc0 hi hx hg]; done) | (rw [shc1 hi hx hg]; done) | (rw [shc2 (u := x.at_ - e.out) hi hx hg]; first | done | rfl)⟩
                · have c4 : x.gr ≠ 1 := by first | omega | (simp at h; omega)
                  have hg : gnM e x = some e.at_ := by unfold gnM goneS; rw [if_neg c1, if_neg c2, if_neg (by simpa using c4)]
                  refine tc_reg ?_; refine tlm ?_; refine tv (o_fieldAddr (o := 0) Try.underlying24 rfl rfl sz3 rfl) ?_; refine tv (by first | exact o_load p3 rfl (by repeat (first | with_reducible exact has_here | with_reducible exact has_pt | apply has_left)) rfl | exact o_loadC p3 rfl (by assumption)) ?_; refine tv (o_ncP (a := some ⟨bi, oi, none⟩) (m := 0) rfl nn_some) ?_; refine tv (o_faP (a := some ⟨bi, oi, none⟩) (m := 0) (o := 1) Try.underlying35 rfl rfl sz3 rfl nn_some) ?_; refine tl_u rfl (o_stP (a := some ⟨bi, oi, none⟩) sz3 rfl rfl rfl (by repeat (first | with_reducible exact ct_here | apply ct_left)) (by omega) (mcs_s1 (l := shL e (srt (ltc cId) l) i) (v := e.at_) (by omega))) ?_; refine tl_nil ?_; refine q_block_n (q_block_n (q_then_n ?_)); refine tc_reg ?_; refine tv (by first | exact o_addI rfl rfl (by omega) | exact o_add rfl rfl) ?_; refine tlm ?_; refine nq ?_; exact ⟨_, by omega, i + 1, by omega, by rw [List.take_succ_eq_append_getElem (by omega)]; intro y hy; rcases List.mem_append.1 hy with h1 | h1; exact hp1 y h1; rw [List.mem_singleton.1 h1, hx, hg]; rfl, rfl, rfl, rfl, rfl, rfl, by first | (rw [shc0 hi hx hg]; done) | (rw [shc1 hi hx hg]; done) | (rw [shc2 (u := x.at_ - e.out) hi hx hg]; first | done | rfl)⟩
          · try simp only [lv1, lv2, lv3, lv4, lv5, lv6, Bool.not_true, Bool.not_false] at h
            refine tc_exit ?_; refine q_then_e (q_then_e (q_block_x (q_then_n ?_))); refine sr ?_; refine tlm ?_; refine tla ?_; refine tla ?_; refine nq ?_; refine tc_ret ?_
            have hi : n ≤ i := by first | omega | (simp at h; omega)
            obtain rfl : i = (srt (ltc cId) l).length := by omega
            rw [List.take_length] at hp1
            have e0 : shiftS l e = ((srt (ltc cId) l).map (mvM e), 0) := by unfold shiftS; rw [if_neg (by simpa using hne), if_neg (by rw [hem]; decide), if_pos (List.all_eq_true.2 hp1)]
            rw [e0]
            have el : ((srt (ltc cId) l).map (mvM e)).length = n := by rw [List.length_map]; exact hsl
            exact ⟨.tuple #[.slice a45 n c45, .int .i64 0], A * Sl 3 (.slice a45 n c45) n (mcs ((srt (ltc cId) l).map (mvM e))), res2 rfl rfl rfl, fun _ _ h => by rw [← shL_all]; exact Dr.sat (by repeat (first | with_reducible exact dr_refl | apply dr_keep | apply dr_drop)) _ _ h, a45, c45, by rw [el], by rw [el]; exact hc45, by rw [el]⟩
end Go.Vl

set_option linter.unusedVariables false
set_option linter.unusedSimpArgs false
namespace Go.Vl
open Go Go.Proofs
/-- Sixteen bytes of a mark. -/
def pkM (m : Mk) : List Nat := le 4 m.id ++ (le 8 m.at_.toNat ++ [m.gr, 0, 0, 0])
def pkS (l : List Mk) : List Nat := l.flatMap pkM
theorem pkM_len (m : Mk) : (pkM m).length = 16 := by unfold pkM; simp [le_length]
theorem pkS_len : ∀ (l : List Mk), (pkS l).length = 16 * l.length
  | [] => rfl
  | m :: l => by show (pkM m ++ pkS l).length = _; rw [List.length_append, pkM_len, pkS_len l, List.length_cons]; omega
theorem pkS_snoc (l : List Mk) (m : Mk) : pkS (l ++ [m]) = pkS l ++ pkM m := by simp [pkS]
theorem pkM_bytes {m : Mk} (h : m.gr < 256) : ∀ x ∈ pkM m, x < 256 := fun x hx => by
  unfold pkM at hx
  rcases List.mem_append.1 hx with h1 | h1
  · exact le_bytes _ _ _ h1
  · rcases List.mem_append.1 h1 with h2 | h2
    · exact le_bytes _ _ _ h2
    · simp only [List.mem_cons, List.not_mem_nil, or_false] at h2; omega
theorem pkS_bytes {l : List Mk} (h : ∀ m ∈ l, m.gr < 256) : ∀ x ∈ pkS l, x < 256 := fun x hx => by
  obtain ⟨m, hm, h2⟩ := List.mem_flatMap.1 hx
  exact pkM_bytes (h m hm) x h2
def packS (l : List Mk) : ByteArray × Int := if mayS l ≠ 0 then (.empty, mayS l) else (sob (pkS (srt (ltc cId) l)), 0)
attribute [local irreducible] Sl pt ro SlB
set_option maxRecDepth 20000 in
set_option maxHeartbeats 2000000 in
theorem Pack_c {A : SP} {a : Option Addr} {c n : Nat} {l : List Mk} (hr : Rs A a (mcs l) := by repeat (first | assumption | with_reducible exact rs_sl | with_reducible exact rs_pt0 | exact rs_none | apply Rs.left)) (hm : l.length = n := by first | assumption | rfl) (hW : ∀ x ∈ l, MkW x := by assumption) (hs : n ≤ 5864062014800 := by omega) :
    Fn Try.prog 27 #[.slice a n c] (A) (fun r B => r = .tuple #[.string (packS l).1, .int .i64 (packS l).2] ∧ A = B) := by
  refine fn_enterW (args := [.slice a n c]) Try.func27 rfl Try.ntmps27 (by simp) ?_; refine sr ?_; refine tla ?_; refine tla ?_; refine nq ?_; refine tc_seq ?_; refine sr ?_; refine tlm ?_; refine tl_c rfl (o_call bd32 rfl (may_c (l := l))) ?_; rintro _ _ ⟨rfl, rfl⟩; refine tla ?_; refine nq ?_; refine sr ?_; refine tlm ?_; refine tv (o_nei rfl rfl) ?_; refine nq ?_; refine tc_cond rfl (fun h => ?_) (fun h => ?_)
  · have hne : mayS l ≠ 0 := by simpa using h
    refine sr ?_; refine tlm ?_; refine tla ?_; refine tla ?_; refine nq ?_; refine tc_ret ?_; refine q_then_r ?_
    have e0 : packS l = (.empty, mayS l) := by unfold packS; rw [if_pos hne]
    rw [e0]
    exact ⟨.tuple #[.string .empty, .int .i64 (mayS l)], A, res2 rfl rfl rfl, Dr.sat (by repeat (first | with_reducible exact dr_refl | apply dr_keep | apply dr_drop)), rfl, rfl⟩
  · have hne : mayS l = 0 := by simpa using h
    have h32 := (may_zero hne).1
    have hok := (may_zero hne).2.1
    refine tc_skip ?_; refine q_then_n ?_; refine sr ?_; refine tl_x rfl (o_alloc (l := [.pointer none, .slice none 0 0]) z64 rfl) ?_; rintro _ _ ⟨b5, rfl, rfl⟩; refine nq ?_; refine tc_seq ?_; refine sr ?_; refine tlm ?_; refine tl_c rfl (o_call bd33 rfl (ordered_c (l := l) ordId cId_swo)) ?_; rintro _ _ ⟨a15, c15, rfl, hc15, rfl⟩
    have hsl : (srt (ltc cId) l).length = n := by rw [srt_length cId_swo]; assumption
    refine tv (o_len Try.underlying22 rfl) ?_; refine tlm ?_; refine nq ?_; refine tc_block ?_; refine tc_pre (A' := A * Sl 3 (.slice a15 n c15) n (mcs (srt (ltc cId) l)) * pt b5 (cl [.pointer none, .slice none 0 0] 64) * SlB 5 (.slice none 0 0) 0 []) (fun _ _ h => slb_nil (h.perm (by ac_rfl))) ?_; refine tc_loop (fun kk ρ BB => ∃ (i : Nat) (ab : Option Addr) (cb : Nat) (p : Value), (i ≤ n) ∧ (p = .pointer none ∨ p = .pointer (some ⟨b5, 0, none⟩)) ∧ (0 < i ∨ ab = none) ∧ kk = n - i ∧ ρ 17 = .int .i64 (i : Nat) ∧ ρ 5 = .pointer (some ⟨b5, 0, none⟩) ∧ ρ 15 = .slice a15 n c15 ∧ ρ 16 = .int .i64 (n : Nat) ∧ Dr BB (A * Sl 3 (.slice a15 n c15) n (mcs (srt (ltc cId) l)) * pt b5 (cl [p, .slice ab (16 * i) cb] 64) * SlB 5 (.slice ab (16 * i) cb) (16 * i) (bys (pkS ((srt (ltc cId) l).take i))))) (m := n - (0)) ?_ ?_
    · exact ⟨0, none, 0, .pointer none, by omega, .inl rfl, .inr rfl, rfl, rfl, rfl, rfl, rfl, (by repeat (first | with_reducible exact dr_refl | apply dr_keep | apply dr_drop))⟩
    · intro k ρ B hI
      obtain ⟨i, ab, cb, p, hp0, hp1, hp2, hkk1, hE17, hE5, hE15, hE16, hBA⟩ := hI
      refine tc_pre hBA.sat ?_
      clear hBA
      refine tc_env (d := 17) hE17 ?_; refine tc_env (d := 5) hE5 ?_; refine tc_env (d := 15) hE15 ?_; refine tc_env (d := 16) hE16 ?_
      clear hE17 hE5 hE15 hE16
      refine sr ?_; refine tv (o_lss rfl rfl) ?_; refine nq ?_; refine tc_seq ?_; refine tc_cond rfl (fun h => ?_) (fun h => ?_)
      · have hi : i < (srt (ltc cId) l).length := by first | omega | (simp at h; omega)
        obtain ⟨x, hx⟩ : ∃ x, (srt (ltc cId) l)[i] = x := ⟨_, rfl⟩
        have hxm : x ∈ l := (srt_mem cId_swo).1 (hx ▸ List.getElem_mem hi)
        have hxW := hW x hxm
        have hxi := hxW.id
        have hxg := hxW.gr
        have hxa := hxW.at_
        have hxo : okM x = true := List.all_eq_true.1 hok x hxm
        have hx0 : 0 ≤ x.at_ := by unfold okM at hxo; simp only [Bool.and_eq_true, decide_eq_true_eq] at hxo; exact hxo.1
        have hxt : x.at_ = ((x.at_.toNat : Nat) : Int) := (Int.toNat_of_nonneg hx0).symm
        have htk : (srt (ltc cId) l).take (i + 1) = (srt (ltc cId) l).take i ++ [x] := by rw [List.take_succ_eq_append_getElem hi, hx]
        have hpl : (pkS ((srt (ltc cId) l).take i)).length = 16 * i := by rw [pkS_len, List.length_take]; omega
        refine tc_skip ?_; refine q_then_n ?_; refine tc_seq ?_; refine tc_block ?_; refine sr ?_; refine tv (o_ixP Try.underlying22 sz35 rfl rfl (by omega) (by repeat (first | exact nn_sl (by decide) | apply Nn.left))) ?_; refine tv (o_ldPN (vs := x.cells) a35 sz35 rfl (by repeat (first | with_reducible exact rs_sl | apply Rs.left)) (by rw [mcs_at (by omega), hx]) rfl (by decide)) ?_; refine tl_x rfl (o_alloc z35 rfl) ?_; rintro _ _ ⟨b7, rfl, rfl⟩; refine tl_u rfl (o_stUN (l' := x.cells) rfl (by repeat (first | with_reducible exact upd_here | with_reducible exact upd_pt | apply upd_left)) sz35 rfl rfl rfl (by show 3 ≤ 3; decide) rfl) ?_; refine nq ?_; refine tc_seq ?_; refine tc_regh (S := A * Sl 3 (.slice a15 n c15) n (mcs (srt (ltc cId) l)) * pt b5 (cl [p, .slice ab (16 * i) cb] 64) * SlB 5 (.slice ab (16 * i) cb) (16 * i) (bys (pkS ((srt (ltc cId) l).take i))) * pt b7 (cl x.cells 35)) mo (by repeat (first | with_reducible exact dr_refl | apply dr_keep | apply dr_drop)) ?_
        show TH _ _ _ _ _ 8 #[ff,ff,ff,ff,ff,ff,ff,ff] _ _
        refine th_take (i := 0) (listed' := #[tt,ff,ff,ff,ff,ff,ff,ff]) rfl (by kernel_rfl) (by kernel_rfl) (by kernel_rfl) rfl rfl (o_fieldAddr (o := 0) Try.underlying35 rfl rfl sz33 rfl) ?_; refine th_take (i := 1) (listed' := #[tt,tt,ff,ff,ff,ff,ff,ff]) rfl (by kernel_rfl) (by kernel_rfl) (by kernel_rfl) rfl rfl (by first | exact o_load p33 rfl (by repeat (first | with_reducible exact has_here | with_reducible exact has_pt | apply has_left)) rfl | exact o_loadC p33 rfl (by assumption)) ?_; refine th_take (i := 3) (listed' := #[tt,tt,ff,tt,ff,ff,ff,ff]) rfl (by kernel_rfl) (by kernel_rfl) (by kernel_rfl) rfl rfl (o_fieldAddr (o := 1) Try.underlying35 rfl rfl sz3 rfl) ?_; refine th_take (i := 4) (listed' := #[tt,tt,ff,tt,tt,ff,ff,ff]) rfl (by kernel_rfl) (by kernel_rfl) (by kernel_rfl) rfl rfl (by first | exact o_load p3 rfl (by repeat (first | with_reducible exact has_here | with_reducible exact has_pt | apply has_left)) rfl | exact o_loadC p3 rfl (by assumption)) ?_; refine th_env (d := 25) (v := .int .i64 ((x.at_.toNat : Nat) : Int)) (congrArg (Value.int .i64) hxt) ?_; refine th_take (i := 5) (listed' := #[tt,tt,ff,tt,tt,tt,ff,ff]) rfl (by kernel_rfl) (by kernel_rfl) (by kernel_rfl) rfl rfl (by first | exact o_conv64 Try.underlying3 Try.underlying66 rfl | exact o_conv Try.underlying3 Try.underlying66 rfl) ?_; refine th_env (d := 26) (v := .int .u64 ((x.at_.toNat : Nat) : Int)) (congrArg (fun z : Nat => Value.int .u64 (z : Int)) (Nat.mod_eq_of_lt (by omega))) ?_
        refine th_one (i := 2) (by kernel_rfl) ?_; refine oh_c (i := 2) (listed' := #[tt,tt,tt,tt,tt,tt,ff,ff]) rfl rfl rfl (o_call bd46 rfl (Put32_c (xs := []) (v := x.id))) ?_; rintro _ _ ⟨a23, c23, rfl, hc23, rfl⟩; refine ⟨by repeat (first | with_reducible exact dr_refl | apply dr_keep | apply dr_drop), ?_⟩; refine th_env (d := 23) (v := .slice a23 4 c23) (rfl) ?_; refine th_one (i := 6) (by kernel_rfl) ?_; refine oh_c (i := 6) (listed' := #[tt,tt,tt,tt,tt,tt,tt,ff]) rfl rfl rfl (o_call bd45 rfl (Put64_c (m := 4) (xs := [] ++ le 4 x.id) (v := x.at_.toNat) (hr := rs_sl) (hm := by rw [List.nil_append, le_length]))) ?_; rintro _ _ ⟨a27, c27, rfl, hc27, rfl⟩; refine ⟨by repeat (first | with_reducible exact dr_refl | apply dr_keep | apply dr_drop), ?_⟩; refine th_env (d := 27) (v := .slice a27 12 c27) (rfl) ?_; refine th_take (i := 7) (listed' := #[tt,tt,tt,tt,tt,tt,tt,tt]) rfl (by kernel_rfl) (by kernel_rfl) (by kernel_rfl) rfl rfl (o_assign (by conv => lhs; whnf)) ?_; refine th_done (by kernel_rfl) ?_; refine q_then_n ?_; refine tc_reg ?_; refine tlm ?_; refine tv (o_fieldAddr (o := 2) Try.underlying35 rfl rfl sz5 rfl) ?_; refine tv (by first | exact o_load p5 rfl (by repeat (first | with_reducible exact has_here | with_reducible exact has_pt | apply has_left)) rfl | exact o_loadC p5 rfl (by assumption)) ?_; refine tl_x rfl (o_buildSliceL (k := 1) (vs := bys [x.gr, 0, 0, 0]) (l := bys [x.gr, 0, 0, 0]) Try.underlying62 sz5 z5 rfl rfl (by decide) (by decide) (by intro v hv; simp only [bys, b8, List.map_cons, List.map_nil, List.mem_cons, List.not_mem_nil, or_false] at hv; rcases hv with rfl | rfl | rfl | rfl <;> rfl) rfl) ?_
        rintro _ _ ⟨b31, rfl, rfl⟩; refine tl_x rfl (o_apB Try.underlying62 Try.underlying62 sz5 by5 z5 rfl (by decide) (by decide) rfl rfl rfl (by repeat (first | with_reducible exact ct_here | apply ct_left)) rfl rfl (by decide) (show bys ([] ++ le 4 x.id ++ le 8 x.at_.toNat) ++ bys [x.gr, 0, 0, 0] = bys (pkM x) by rw [← bys_append]; unfold pkM; rw [List.nil_append, List.append_assoc])) ?_; rintro _ _ ⟨a32, c32, rfl, hc32, rfl⟩; refine tl_c rfl (o_call bd47 rfl (Fn.pre (bw_f (A * Sl 3 (.slice a15 n c15) n (mcs (srt (ltc cId) l)) * pt b7 (cl x.cells 35) * Sl 1 (.slice a32 (12 + 4) c32) (12 + 4) (bys (pkM x))) (m := 12 + 4) (ys := pkM x) hp1 rs_sl (pkM_len x) hpl (by omega)) (fun g w h => (Dr.sat (A' := A * Sl 3 (.slice a15 n c15) n (mcs (srt (ltc cId) l)) * pt b5 (cl [p, .slice ab (16 * i) cb] 64) * SlB 5 (.slice ab (16 * i) cb) (16 * i) (bys (pkS ((srt (ltc cId) l).take i))) * pt b7 (cl x.cells 35) * Sl 1 (.slice a32 (12 + 4) c32) (12 + 4) (bys (pkM x))) (by repeat (first | with_reducible exact dr_refl | apply dr_keep | apply dr_drop)) g w h).perm (by ac_rfl)))) ?_; rintro _ _ ⟨a33, c33, rfl, rfl⟩
        rw [← pkS_snoc, ← htk, show 16 * i + (12 + 4) = 16 * (i + 1) by omega]
        refine tl_nil ?_; refine q_block_n (q_then_n ?_); refine tc_reg ?_; refine tv (by first | exact o_addI rfl rfl (by omega) | exact o_add rfl rfl) ?_; refine tlm ?_; refine nq ?_; exact ⟨_, by omega, i + 1, a33, c33, _, by omega, .inr rfl, .inl (by omega), rfl, rfl, rfl, rfl, rfl, (by repeat (first | with_reducible exact dr_refl | apply dr_keep | apply dr_drop))⟩
      · try simp only [lv1, lv2, lv3, lv4, lv5, lv6, Bool.not_true, Bool.not_false] at h
        refine tc_exit ?_; refine q_then_e (q_then_e (q_block_x (q_then_n ?_))); refine sr ?_
        obtain rfl : i = n := by first | omega | (simp at h; omega)
        refine tl_c rfl (o_call bd48 rfl (Fn.pre (bs_f A (n := 16 * i) (xs := pkS ((srt (ltc cId) l).take i)) (by rw [pkS_len, List.length_take]; omega) (by rcases hp2 with h1 | h1; exact .inl (by omega); exact .inr h1) (pkS_bytes fun m hm => (hW m ((srt_mem cId_swo).1 (List.mem_of_mem_take hm))).gr) (by omega)) (Dr.sat (by repeat (first | with_reducible exact dr_refl | apply dr_keep | apply dr_drop))))) ?_; rintro _ _ ⟨rfl, hB⟩
        obtain rfl := hB.symm
        refine tla ?_; refine tla ?_; refine nq ?_; refine tc_ret ?_
        rw [List.take_of_length_le (by omega)]
        have e0 : packS l = (sob (pkS (srt (ltc cId) l)), 0) := by unfold packS; rw [if_neg (by simpa using hne)]
        rw [e0]
        exact ⟨.tuple #[.string (sob (pkS (srt (ltc cId) l))), .int .i64 0], A, res2 rfl rfl rfl, Dr.sat (by repeat (first | with_reducible exact dr_refl | apply dr_keep | apply dr_drop)), rfl, rfl⟩
end Go.Vl

set_option linter.unusedVariables false
set_option linter.unusedSimpArgs false
namespace Go.Vl
open Go Go.Proofs
attribute [local irreducible] Sl pt ro SlB
def cmpB (pl : Bool) : Mk → Mk → Int := if pl then cPl else cId
end Go.Vl

set_option linter.unusedVariables false
set_option linter.unusedSimpArgs false
namespace Go.Vl
open Go Go.Proofs
theorem old_heap' {W w : World} {g : Gh} (h : sat g w (old W)) {k : Nat} (hk : k < W.heap.size) : w.heap[k]? = W.heap[k]? := by
  obtain ⟨x, rfl, hx⟩ := h.hp
  have := Array.getElem?_eq_getElem hk
  rw [this]; exact hx _ _ true (by simp [this])
theorem cell_old' {W : World} {b off : Nat} {v : Value} (h : W.cell? ⟨b, off, none⟩ = some v) : Cell (old W) b off v := fun g w hs => by
  have hb : b < W.heap.size := by
    rcases Nat.lt_or_ge b W.heap.size with h1 | h1
    · exact h1
    · exfalso
      have : W.heap[b]? = none := Array.getElem?_eq_none h1
      simp [World.cell?, this] at h
  have := old_heap' hs hb
  rw [← h]; simp only [World.cell?, this]
theorem rs_old {W : World} {a : Addr} {xs : List Value} (h : ∀ i v, xs[i]? = some v → W.cell? (a.add i) = some v) : Rs (old W) (some a) xs := by
  cases xs with
  | nil => exact rs_nil
  | cons x l =>
    obtain ⟨b, off, spot⟩ := a
    have h0 := h 0 x rfl
    have hspot : spot = none := by simpa [Addr.add] using World.cell?_spot h0
    subst hspot
    refine fun g w hs i v hv => ⟨b, off, rfl, ?_⟩
    have := h i v hv
    rw [WideShapes.add_plain] at this
    exact cell_old' this g w hs
/-- Whatever lies there as a value of type t, by the argument's own reading, r holds of. -/
def Rdb {α : Type} (P : Program) (W : World) (t : TypeId) (r : List Value → α → Prop) : Prop :=
  ∀ (H : Type) (enc : TypeId × Value → H) (spare : Nat → Bool) (held : Bool) (fuel : Nat) (cs : List Value) (d : DataW H) (pl : List MemPlace),
    DataW.trod enc P W 0 spare held fuel t cs = some (d, pl) → (∀ n ∈ d.weights P t, n ≤ reachBytes) → ∃ x, r cs x
theorem Rdb.mono {α β : Type} {P : Program} {W : World} {t : TypeId} {r : List Value → α → Prop} {q : List Value → β → Prop} (h : Rdb P W t r) (k : ∀ cs x, r cs x → ∃ y, q cs y) : Rdb P W t q :=
  fun H enc sp hd fu cs d pl h1 h2 => by obtain ⟨x, hx⟩ := h H enc sp hd fu cs d pl h1 h2; exact k cs x hx
def PInt (k : IntKind) (cs : List Value) (n : Int) : Prop := cs = [.int k n] ∧ (Lit.int k n).wf = true
theorem rdb_int {P : Program} {W : World} {t : TypeId} {k : IntKind} (ht : P.underlying t = some (.int k)) : Rdb P W t (PInt k) := fun H enc sp hd fu cs d pl h _ => by
  obtain ⟨n, e, _, hw⟩ := DataW.trod_int ht h
  exact ⟨n, e, hw⟩
def PBool (cs : List Value) (b : Bool) : Prop := cs = [.bool b]
/-- A slice: its elements' cells, and what each is. -/
def PSl {α : Type} (A : SP) (k b : Nat) (r : List Value → α → Prop) (cs : List Value) (xs : List α) : Prop :=
  ∃ (a : Option Addr) (cap : Nat) (Cs : List (List Value)), cs = [.slice a xs.length cap] ∧ xs.length ≤ cap ∧ xs.length * b ≤ reachBytes ∧ Cs.length = xs.length ∧ (∀ i (h : i < xs.length) (h' : i < Cs.length), Cs[i].length = k ∧ r Cs[i] xs[i]) ∧ Rs A a Cs.flatten
theorem weightsAll_mem {H : Type} {P : Program} {e : TypeId} : ∀ {l : List (DataW H)} {d : DataW H}, d ∈ l → ∀ n ∈ d.weights P e, n ∈ DataW.weightsAll P e l
  | x :: l, d, h, n, hn => by
    simp only [DataW.weightsAll, List.mem_append]
    rcases List.mem_cons.1 h with rfl | h
    · exact .inl hn
    · exact .inr (weightsAll_mem h n hn)
theorem flat_at {k : Nat} : ∀ {Cs : List (List Value)} (_ : ∀ c ∈ Cs, c.length = k) {i j : Nat} (_ : j < k) (hi : i < Cs.length), Cs.flatten[i * k + j]? = Cs[i][j]?
  | c :: Cs, h, 0, j, hj, _ => by
    rw [Nat.zero_mul, Nat.zero_add, List.flatten_cons, List.getElem?_append_left (by rw [h c (by simp)]; exact hj)]; rfl
  | c :: Cs, h, i + 1, j, hj, hi => by
    have hc := h c (by simp)
    rw [List.flatten_cons, List.getElem?_append_right (by rw [hc, Nat.add_mul]; omega), hc, show (i + 1) * k + j - k = i * k + j by rw [Nat.add_mul]; omega]
    exact flat_at (fun x hx => h x (List.mem_cons_of_mem _ hx)) hj (by simpa using hi)
theorem flat_length {k : Nat} : ∀ {Cs : List (List Value)} (_ : ∀ c ∈ Cs, c.length = k), Cs.flatten.length = Cs.length * k
  | [], _ => by simp
  | c :: Cs, h => by
    rw [List.flatten_cons, List.length_append, h c (by simp), flat_length (fun x hx => h x (List.mem_cons_of_mem _ hx)), List.length_cons, Nat.add_mul]; omega
theorem rdb_slice {α : Type} {P : Program} {W : World} {t e : TypeId} {k b : Nat} {r : List Value → α → Prop} (ht : P.underlying t = some (.slice e)) (hk : P.cellsOf e = k) (hb : P.bytesOf e = b) (hk0 : 0 < k) (hr : Rdb P W e r) : Rdb P W t (PSl (old W) k b r) := fun H enc sp hd fu cs d pl h hw => by
  rcases Deep.open_slice ht h with ⟨rfl, _⟩ | ⟨a, len, cap, m, n, D, Pl, rfl, _, hl, _, hm, hx, hel⟩
  · exact ⟨[], none, 0, [], rfl, Nat.le_refl _, by simp, rfl, fun i h => by simp at h, rs_nil⟩
  · have hlm : len ≤ m := by rw [hm]; split <;> omega
    simp only [Prod.mk.injEq] at hx
    obtain ⟨rfl, _⟩ := hx
    have hall : ∀ n ∈ DataW.weights P t (DataW.slice ((List.range len).map D) ((List.range (m - len)).map fun j => D (len + j))), n ≤ reachBytes := hw
    have hw1 : (len + (m - len)) * P.bytesOf e ≤ reachBytes := by
      have := hall ((len + (m - len)) * P.bytesOf e) (by simp [DataW.weights, ht])
      exact this
    have hex : ∀ i, i < len → ∃ p : List Value × α, p.1.length = k ∧ r p.1 p.2 ∧ ∀ j v, p.1[j]? = some v → W.cell? (a.add (i * k + j)) = some v := fun i hi => by
      obtain ⟨cs', h1, h2⟩ := hel i (by omega)
      rw [hk] at h1
      obtain ⟨_, hlen, h3⟩ := World.cells?_some h1
      obtain ⟨x, hx⟩ := hr H enc sp hd n cs' (D i) (Pl i) h2 (fun n hn => hall n (by
        simp only [DataW.weights, ht, List.mem_cons, List.mem_append]
        refine .inr (.inl (weightsAll_mem (d := D i) ?_ n hn))
        exact List.mem_map.2 ⟨i, List.mem_range.2 hi, rfl⟩))
      refine ⟨(cs', x), hlen, hx, fun j v hv => ?_⟩
      have hj : j < k := by have h9 : j < cs'.length := lt_at hv; omega
      have := h3 j hj
      rw [Deep.add_add] at this
      rw [this, hv]
    rcases Nat.eq_zero_or_pos len with h0 | h0
    · subst h0
      exact ⟨[], some a, cap, [], rfl, Nat.zero_le _, by simp, rfl, fun i h => by simp at h, rs_nil⟩
    · obtain ⟨p0, _⟩ := hex 0 h0
      haveI : Inhabited (List Value × α) := ⟨p0⟩
      obtain ⟨f, hf⟩ := Deep.choose_lt hex
      refine ⟨(List.range len).map fun i => (f i).2, some a, cap, (List.range len).map fun i => (f i).1, by simp, by simpa using hl, ?_, by simp, fun i h h' => ?_, rs_old fun i v hv => ?_⟩
      · simp only [List.length_map, List.length_range, ← hb]
        exact Nat.le_trans (Nat.mul_le_mul_right _ (by omega)) hw1
      · simp only [List.length_map, List.length_range] at h
        simp only [List.getElem_map, List.getElem_range]
        exact ⟨(hf i h).1, (hf i h).2.1⟩
      · have hCk : ∀ c ∈ (List.range len).map fun i => (f i).1, c.length = k := fun c hc => by
          obtain ⟨i, hi, rfl⟩ := List.mem_map.1 hc
          exact (hf i (List.mem_range.1 hi)).1
        have hi := lt_at hv
        rw [flat_length hCk, List.length_map, List.length_range] at hi
        have hq : i / k < len := Nat.div_lt_of_lt_mul (by rw [Nat.mul_comm]; exact hi)
        have hm2 : i % k < k := Nat.mod_lt _ hk0
        have e : i = i / k * k + i % k := (Nat.div_add_mod' i k).symm
        rw [e, flat_at hCk hm2 (by simpa using hq)] at hv
        simp only [List.getElem_map, List.getElem_range] at hv
        rw [e]
        exact (hf (i / k) hq).2.2 _ v hv
/-- The fields of a struct, one by one. -/
theorem rdb_fields {P : Program} {W : World} {t : TypeId} {fs : Array Field} (ht : P.underlying t = some (.struct fs)) {H : Type} {enc : TypeId × Value → H} {sp : Nat → Bool} {hd : Bool} {fu : Nat} {cs : List Value} {d : DataW H} {pl : List MemPlace}
    (h : DataW.trod enc P W 0 sp hd fu t cs = some (d, pl)) (hw : ∀ n ∈ d.weights P t, n ≤ reachBytes) : cs.length = P.cellsOf t ∧
    ∀ (j : Nat) (f : Field), fs[j]? = some f → ∀ {α : Type} {r : List Value → α → Prop}, Rdb P W f.type r → ∃ x, r ((cs.drop f.offset).take (P.cellsOf f.type)) x := by
  obtain ⟨xs, n, _, hx, hl, hlen, hf⟩ := DataW.trod_struct ht h
  refine ⟨hl, fun j f hj α r hr => ?_⟩
  simp only [Prod.mk.injEq] at hx
  obtain ⟨rfl, _⟩ := hx
  have hj' : j < xs.length := by
    have h1 : j < fs.size := (Array.getElem?_eq_some_iff.1 hj).1
    have h2 : xs.length = fs.size := by simpa using hlen
    omega
  have := hf j f hj
  rw [List.getElem?_eq_getElem hj'] at this
  refine hr H enc sp hd n _ xs[j].1 xs[j].2 this (fun m hm => hw m ?_)
  simp only [DataW.weights, ht]
  exact DataW.weights_mem_each (ts := fs.toList.map (·.type)) (ds := xs.map (·.1)) (j := j) (t := f.type) (d := xs[j].1) (by simp [hj]) (by simp [hj']) m hm
/-- Bytes. -/
def PBys (A : SP) (cs : List Value) (xs : List Nat) : Prop := ∃ a cap, cs = [.slice a xs.length cap] ∧ xs.length ≤ cap ∧ xs.length ≤ 140737488351232 ∧ Rs A a (bys xs) ∧ ∀ x ∈ xs, x < 256
def PInts (A : SP) (cs : List Value) (xs : List Int) : Prop := ∃ a cap, cs = [.slice a xs.length cap] ∧ xs.length ≤ cap ∧ xs.length ≤ 17592186043904 ∧ Rs A a (ints xs) ∧ ∀ x ∈ xs, -9223372036854775808 ≤ x ∧ x ≤ 9223372036854775807
theorem i64_wf {x : Int} (h : (Lit.int .i64 x).wf = true) : -9223372036854775808 ≤ x ∧ x ≤ 9223372036854775807 := Go.bounds_i64 h
end Go.Vl

set_option linter.unusedVariables false
set_option linter.unusedSimpArgs false
namespace Go.Vl
open Go Go.Proofs
abbrev ub {H : Type} (d : DataW H) : Nat := Go.Proofs.Ytnkeepjpkdjcdaa.Rows.uptoBulk d
abbrev ubs {H : Type} (l : List (DataW H)) : Nat := Go.Proofs.Ytnkeepjpkdjcdaa.Rows.uptoBulkAll l
/-- Whatever lies there as a value of type t, by the argument's own reading, r holds of, and of how much. -/
def Rdu {α : Type} (P : Program) (W : World) (t : TypeId) (r : List Value → α → Prop) (sz : α → Nat) : Prop :=
  ∀ (H : Type) (enc : TypeId × Value → H) (spare : Nat → Bool) (held : Bool) (fuel : Nat) (cs : List Value) (d : DataW H) (pl : List MemPlace),
    DataW.trod enc P W 0 spare held fuel t cs = some (d, pl) → ∃ x, r cs x ∧ sz x ≤ ub d
theorem Rdu.mono {α β : Type} {P : Program} {W : World} {t : TypeId} {r : List Value → α → Prop} {s : α → Nat} {q : List Value → β → Prop} {z : β → Nat} (h : Rdu P W t r s) (k : ∀ cs x, r cs x → ∃ y, q cs y ∧ z y ≤ s x) : Rdu P W t q z :=
  fun H enc sp hd fu cs d pl h1 => by
    obtain ⟨x, hx, hs⟩ := h H enc sp hd fu cs d pl h1
    obtain ⟨y, hy, hz⟩ := k cs x hx
    exact ⟨y, hy, by omega⟩
/-- A slice: its elements' cells, and what each is. -/
def PSu {α : Type} (A : SP) (k : Nat) (r : List Value → α → Prop) (cs : List Value) (xs : List α) : Prop :=
  ∃ (a : Option Addr) (cap : Nat) (Cs : List (List Value)), cs = [.slice a xs.length cap] ∧ xs.length ≤ cap ∧ Cs.length = xs.length ∧ (∀ i (h : i < xs.length) (h' : i < Cs.length), Cs[i].length = k ∧ r Cs[i] xs[i]) ∧ Rs A a Cs.flatten
def szL {α : Type} (sz : α → Nat) (xs : List α) : Nat := (xs.map sz).sum + 1
/-- Bytes. -/
def PByU (A : SP) (cs : List Value) (xs : List Nat) : Prop := ∃ a cap, cs = [.slice a xs.length cap] ∧ xs.length ≤ cap ∧ Rs A a (bys xs) ∧ ∀ x ∈ xs, x < 256
def PInU (A : SP) (cs : List Value) (xs : List Int) : Prop := ∃ a cap, cs = [.slice a xs.length cap] ∧ xs.length ≤ cap ∧ Rs A a (ints xs) ∧ ∀ x ∈ xs, -9223372036854775808 ≤ x ∧ x ≤ 9223372036854775807
end Go.Vl

set_option linter.unusedVariables false
set_option linter.unusedSimpArgs false
namespace Go.Vl
open Go Go.Proofs
theorem Setw {A : SP} {a : Option Addr} {c n : Nat} {l : List Mk} {X : List Mk} {er : Int} {m : Mk} (hX : setS l m = (X, er)) (hr : Rs A a (mcs l) := by repeat (first | with_reducible exact rs_sl | assumption | apply Rs.left)) (hm : l.length = n := by first | assumption | rfl)  (hs : n ≤ 5864062014800 := by omega) : Fn Try.prog 21 #[.slice a n c, .agg m.cells.toArray] A (fun r B => ∃ a2 c2, r = .tuple #[.slice a2 X.length c2, .int .i64 er] ∧ X.length ≤ c2 ∧ B = A * Sl 3 (.slice a2 X.length c2) X.length (mcs X)) := by
  have h := Set_c (A := A) (a := a) (c := c) (l := l) (m := m) hr hm hs
  rw [hX] at h
  exact h
theorem Unsetw {A : SP} {a : Option Addr} {c n : Nat} {l : List Mk} {X : List Mk} {er : Int} {id : Nat} (hX : unsetS l id = (X, er)) (hr : Rs A a (mcs l) := by repeat (first | with_reducible exact rs_sl | assumption | apply Rs.left)) (hm : l.length = n := by first | assumption | rfl)  (hs : n ≤ 5864062014800 := by omega) : Fn Try.prog 23 #[.slice a n c, .int .u32 (id : Nat)] A (fun r B => ∃ a2 c2, r = .tuple #[.slice a2 X.length c2, .int .i64 er] ∧ X.length ≤ c2 ∧ B = A * Sl 3 (.slice a2 X.length c2) X.length (mcs X)) := by
  have h := Unset_c (A := A) (a := a) (c := c) (l := l) (id := id) hr hm hs
  rw [hX] at h
  exact h
theorem Shiftw {A : SP} {a : Option Addr} {c n : Nat} {l : List Mk} {X : List Mk} {er : Int} {e : Ed} (hX : shiftS l e = (X, er)) (hr : Rs A a (mcs l) := by repeat (first | with_reducible exact rs_sl | assumption | apply Rs.left)) (hm : l.length = n := by first | assumption | rfl) (hW : ∀ x ∈ l, MkW x := by assumption) (hE : EdW e := by assumption) (hs : n ≤ 5864062014800 := by omega) : Fn Try.prog 12 #[.slice a n c, .agg e.cells.toArray] A (fun r B => ∃ a2 c2, r = .tuple #[.slice a2 X.length c2, .int .i64 er] ∧ X.length ≤ c2 ∧ B = A * Sl 3 (.slice a2 X.length c2) X.length (mcs X)) := by
  have h := Shift_c (A := A) (a := a) (c := c) (l := l) (e := e) hr hm hW hE hs
  rw [hX] at h
  exact h
def rm40 (i : Nat) : List Mk := (List.range i).map fun j => ⟨99, (j : Nat), 7⟩
attribute [local irreducible] Sl pt ro SlB
theorem setW1 : setS [⟨3, 3, 1⟩] ⟨2, 3, 0⟩ = ([⟨2, 3, 0⟩, ⟨3, 3, 1⟩], 0) := by
  simp [setS, mayS, okM, outM, srt, mg_cons, mg_nil_l, mg_nil_r, ltc, cId]
theorem shiftW1 : shiftS [⟨2, 3, 0⟩, ⟨3, 3, 1⟩] ⟨3, 0, 2⟩ = ([⟨2, 3, 0⟩, ⟨3, 5, 1⟩], 0) := by
  simp [shiftS, mayS, okM, edMay, gnM, goneS, mvM, srt, mg_cons, mg_nil_l, mg_nil_r, ltc, cId]
theorem mayW1 : mayS [⟨2, 3, 0⟩, ⟨3, 5, 1⟩] = 0 := by simp [mayS, okM]
theorem checkW1 : checkS [⟨2, 3, 0⟩, ⟨3, 5, 1⟩] 5 = 0 := by simp [checkS, mayS, okM]
theorem checkW2 : checkS [⟨2, 3, 0⟩, ⟨3, 5, 1⟩] 4 = 190 := by simp [checkS, mayS, okM]
theorem packW1 : (packS [⟨2, 3, 0⟩, ⟨3, 5, 1⟩]).2 = 0 := by unfold packS; rw [mayW1]; rfl
theorem packW2 : (packS [⟨2, 3, 0⟩, ⟨3, 5, 1⟩]).1.size = 32 := by
  unfold packS; rw [mayW1, if_neg (by decide)]
  show (sob _).size = 32
  simp [sob, ByteArray.size, pkS_len, srt_length cId_swo]
set_option maxRecDepth 20000 in
set_option maxHeartbeats 2000000 in
theorem worksM_c {A : SP} :
    Fn Try.prog 15 #[] (A) (fun r B => r = .bool true ∧ A = B) := by
  refine fn_enterW (args := []) Try.func15 rfl Try.ntmps15 (by simp) ?_; refine sr ?_; refine tla ?_; refine nq ?_; refine sr ?_; refine tv (o_bS (l := [_, _, _]) (pv_cons (by conv => lhs; whnf) (pv_cons (by conv => lhs; whnf) (pv_cons (by conv => lhs; whnf) pv_nil))) Try.underlying35 z35 (pl35 Try.underlying35) rfl) ?_; refine tl_x rfl (o_buildSliceK (k := 3) (l := (Mk.mk 3 3 1).cells) Try.underlying22 sz35 z35 rfl rfl (by decide)) ?_; rintro _ _ ⟨b9, rfl, rfl⟩; refine tv (o_bS (l := [_, _, _]) (pv_cons (by conv => lhs; whnf) (pv_cons (by conv => lhs; whnf) pv_nil)) Try.underlying35 z35 (pl35 Try.underlying35) rfl) ?_; refine tl_c rfl (o_call bd21 rfl (Setw (l := [⟨3, 3, 1⟩]) (m := ⟨2, 3, 0⟩) (n := 1) setW1 (hr := (show Rs _ _ (Mk.mk 3 3 1).cells from rs_pt rfl)))) ?_; rintro _ _ ⟨a11, c11, rfl, hc11, rfl⟩; refine tlm ?_; refine tv (o_extract rfl rfl) ?_; refine tv (o_extract rfl rfl) ?_; refine tla ?_; refine tla ?_; refine nq ?_; refine sr ?_; refine tlm ?_; refine tv (o_bS (l := [_, _, _]) (pv_cons (by conv => lhs; whnf) (pv_cons (by conv => lhs; whnf) pv_nil)) Try.underlying24 z24 (pl24 Try.underlying24) rfl) ?_; refine tl_c rfl (o_call bd12 rfl (Shiftw (l := [⟨2, 3, 0⟩, ⟨3, 3, 1⟩]) (e := ⟨3, 0, 2⟩) (n := 2) shiftW1 (hW := by intro x hx; simp at hx; rcases hx with rfl | rfl <;> exact ⟨by decide, by decide, by decide⟩) (hE := ⟨by decide, by decide, by decide⟩))) ?_
  rintro _ _ ⟨a17, c17, rfl, hc17, rfl⟩; refine tlm ?_; refine tv (o_extract rfl rfl) ?_; refine tv (o_extract rfl rfl) ?_; refine tla ?_; refine tla ?_; refine nq ?_; refine sr ?_; refine tlm ?_; refine tl_c rfl (o_call bd27 rfl (Pack_c (l := [⟨2, 3, 0⟩, ⟨3, 5, 1⟩]) (n := 2) (hW := by intro x hx; simp at hx; rcases hx with rfl | rfl <;> exact ⟨by decide, by decide, by decide⟩))) ?_; rintro _ _ ⟨rfl, rfl⟩; refine tlm ?_; refine tv (o_extract rfl rfl) ?_; refine tv (o_extract rfl rfl) ?_; refine tl_env (d := 24) (v := .int .i64 0) (by show Value.int .i64 _ = _; rw [packW1]) ?_; refine tla ?_; refine tla ?_; refine nq ?_; refine sr ?_; refine tlm ?_; refine tv (o_eqi rfl rfl) ?_; refine tlm ?_; refine tl_bool (d := 27) rfl (fun h => ?_) (fun h => ?_)
  · try simp only [lv1, lv2, lv3, lv4, lv5, lv6, Bool.not_true, Bool.not_false] at h
    refine tlm ?_; refine tv (o_eqi rfl rfl) ?_; refine tv (o_pick_t rfl (by conv => lhs; whnf)) ?_; refine tlm ?_; refine tl_bool (d := 31) rfl (fun h => ?_) (fun h => ?_)
    · try simp only [lv1, lv2, lv3, lv4, lv5, lv6, Bool.not_true, Bool.not_false] at h
      refine tlm ?_; refine tv (o_eqi rfl rfl) ?_; refine tv (o_pick_t rfl (by conv => lhs; whnf)) ?_; refine tlm ?_; refine tl_bool (d := 35) rfl (fun h => ?_) (fun h => ?_)
      · try simp only [lv1, lv2, lv3, lv4, lv5, lv6, Bool.not_true, Bool.not_false] at h
        refine tlm ?_; refine tv (o_len Try.underlying22 rfl) ?_; refine tv (o_eqi rfl rfl) ?_; refine tv (o_pick_t rfl (by conv => lhs; whnf)) ?_; refine tlm ?_; refine tl_bool (d := 40) rfl (fun h => ?_) (fun h => ?_)
        · try simp only [lv1, lv2, lv3, lv4, lv5, lv6, Bool.not_true, Bool.not_false] at h
          refine tlm ?_; refine tv (o_ixP Try.underlying22 sz35 rfl rfl (by decide) (by repeat (first | exact nn_sl (by decide) | apply Nn.left))) ?_; refine tv (o_ldPN (vs := (Mk.mk 2 3 0).cells) a35 sz35 rfl (by repeat (first | with_reducible exact rs_sl | apply Rs.left)) rfl rfl (by decide)) ?_; refine tv (o_bS (l := [_, _, _]) (pv_cons (by conv => lhs; whnf) (pv_cons (by conv => lhs; whnf) pv_nil)) Try.underlying35 z35 (pl35 Try.underlying35) rfl) ?_; refine tv (o_eqMk (a := ⟨2, 3, 0⟩) (b := ⟨2, 3, 0⟩) rfl rfl) ?_; refine tv (o_pick_t rfl (by conv => lhs; whnf)) ?_; refine tlm ?_; refine tl_bool (d := 47) rfl (fun h => ?_) (fun h => ?_)
          · try simp only [lv1, lv2, lv3, lv4, lv5, lv6, Bool.not_true, Bool.not_false] at h
            refine tlm ?_; refine tv (o_ixP Try.underlying22 sz35 rfl rfl (by decide) (by repeat (first | exact nn_sl (by decide) | apply Nn.left))) ?_; refine tv (o_ldPN (vs := (Mk.mk 3 5 1).cells) a35 sz35 rfl (by repeat (first | with_reducible exact rs_sl | apply Rs.left)) rfl rfl (by decide)) ?_; refine tv (o_bS (l := [_, _, _]) (pv_cons (by conv => lhs; whnf) (pv_cons (by conv => lhs; whnf) (pv_cons (by conv => lhs; whnf) pv_nil))) Try.underlying35 z35 (pl35 Try.underlying35) rfl) ?_; refine tv (o_eqMk (a := ⟨3, 5, 1⟩) (b := ⟨3, 5, 1⟩) rfl rfl) ?_; refine tv (o_pick_t rfl (by conv => lhs; whnf)) ?_; refine tlm ?_; refine tl_bool (d := 54) rfl (fun h => ?_) (fun h => ?_)
            · try simp only [lv1, lv2, lv3, lv4, lv5, lv6, Bool.not_true, Bool.not_false] at h
              refine tlm ?_; refine tv (o_lenS Try.underlying9 rfl) ?_; refine tl_env (d := 56) (v := .int .i64 ((32 : Nat) : Int)) (by show Value.int .i64 ((ByteArray.size _ : Nat) : Int) = _; rw [packW2]) ?_; refine tv (o_eqi rfl rfl) ?_; refine tv (o_pick_t rfl (by conv => lhs; whnf)) ?_; refine tlm ?_; refine tl_bool (d := 59) rfl (fun h => ?_) (fun h => ?_)
              · try simp only [lv1, lv2, lv3, lv4, lv5, lv6, Bool.not_true, Bool.not_false] at h
                refine tlm ?_; refine tl_c rfl (o_call bd18 rfl (Check_c (l := [⟨2, 3, 0⟩, ⟨3, 5, 1⟩]) (n := 2) (z := 5))) ?_; rintro _ _ ⟨rfl, rfl⟩; refine tl_env (d := 61) (v := .int .i64 0) (by show Value.int .i64 _ = _; rw [checkW1]) ?_; refine tv (o_eqi rfl rfl) ?_; refine tv (o_pick_t rfl (by conv => lhs; whnf)) ?_; refine tlm ?_; refine tl_bool (d := 64) rfl (fun h => ?_) (fun h => ?_)
                · try simp only [lv1, lv2, lv3, lv4, lv5, lv6, Bool.not_true, Bool.not_false] at h
                  refine tlm ?_; refine tl_c rfl (o_call bd18 rfl (Check_c (l := [⟨2, 3, 0⟩, ⟨3, 5, 1⟩]) (n := 2) (z := 4))) ?_; rintro _ _ ⟨rfl, rfl⟩; refine tl_env (d := 66) (v := .int .i64 190) (by show Value.int .i64 _ = _; rw [checkW2]) ?_; refine tv (o_eqi rfl rfl) ?_; refine tv (o_pick_t rfl (by conv => lhs; whnf)) ?_; refine tla ?_; refine nq ?_; refine tc_ret ?_; refine ⟨.bool true, _, res1 rfl rfl, ?_, rfl, rfl⟩; exact Dr.sat (by repeat (first | with_reducible exact dr_refl | apply dr_keep | apply dr_drop))
                · exfalso; simp at h
              · exfalso; simp at h
            · exfalso; simp at h
          · exfalso; simp at h
        · exfalso; simp at h
      · exfalso; simp at h
    · exfalso; simp at h
  · exfalso; simp at h
end Go.Vl

set_option linter.unusedVariables false
set_option linter.unusedSimpArgs false
namespace Go.Vl
open Go Go.Proofs
def PMks (A : SP) (cs : List Value) (l : List Mk) : Prop := ∃ a c, cs = [.slice a l.length c] ∧ l.length ≤ c ∧ Rs A a (mcs l) ∧ ∀ x ∈ l, MkW x
theorem set_le {l X : List Mk} {m : Mk} {er : Int} (h : setS l m = (X, er)) : X.length ≤ l.length + 1 := by
  have h1 : (setS l m).1.length ≤ l.length + 1 := by
    have h2 : (outM m.id l).length ≤ l.length := List.length_filter_le _ _
    unfold setS
    repeat' split
    all_goals simp [srt_length cId_swo]
    all_goals omega
  rw [h] at h1; exact h1
attribute [local irreducible] Sl pt ro SlB
end Go.Vl

set_option linter.unusedVariables false
set_option linter.unusedSimpArgs false
namespace Go.Vl
open Go Go.Proofs
def smS (n : Int) : Nat := n.natAbs % 1099511627776
theorem smS_lt (n : Int) : smS n < 1099511627776 := Nat.mod_lt _ (by decide)
theorem tm_small (n : Int) : n.tmod 1099511627776 = if 0 ≤ n then (smS n : Int) else -(smS n : Int) := by
  cases n with
  | ofNat a => rw [if_pos (show 0 ≤ Int.ofNat a from Int.natCast_nonneg a)]; rfl
  | negSucc a => rw [if_neg (show ¬ 0 ≤ Int.negSucc a by omega)]; rfl
def rtE (e : Ed) : Ed := ⟨smS e.at_, smS e.out, smS e.inn⟩
def fwM (i : Nat) (m : Mk) : Mk := ⟨i, smS m.at_, m.gr % 2⟩
def fwL (l : List Mk) : List Mk := l.mapIdx fwM
theorem fwL_snoc (l : List Mk) (x : Mk) : fwL (l ++ [x]) = fwL l ++ [fwM l.length x] := by unfold fwL; rw [List.mapIdx_append]; simp
/-- Marks that may be, in order, none far. -/
structure Few (b : Int) (L : List Mk) : Prop where
  len : L.length ≤ 32
  at_ : ∀ i (h : i < L.length), L[i].id = i ∧ 0 ≤ L[i].at_ ∧ L[i].at_ < b ∧ L[i].gr < 2
theorem fw_few (l : List Mk) (h : l.length ≤ 32) : Few 1099511627776 (fwL l) := by
  refine ⟨by unfold fwL; rw [List.length_mapIdx]; exact h, fun i hi => ?_⟩
  unfold fwL at hi ⊢
  rw [List.length_mapIdx] at hi
  rw [List.getElem_mapIdx]
  have := smS_lt l[i].at_
  exact ⟨rfl, by show (0 : Int) ≤ (smS _ : Int); omega, by show (smS _ : Int) < _; omega, Nat.mod_lt _ (by decide)⟩
theorem Few.may {b : Int} {L : List Mk} (h : Few b L) : mayS L = 0 := by
  refine may_ok h.len (List.all_eq_true.2 fun x hx => ?_) ?_
  · obtain ⟨i, hi, rfl⟩ := List.mem_iff_getElem.1 hx
    obtain ⟨_, h1, _, h2⟩ := h.at_ i hi
    unfold okM; rw [decide_eq_true h1, decide_eq_true (by omega)]; rfl
  · rw [List.Nodup, List.pairwise_iff_getElem]
    intro i j hi hj hij
    rw [List.length_map] at hi hj
    rw [List.getElem_map, List.getElem_map, (h.at_ i hi).1, (h.at_ j hj).1]
    omega
theorem Few.srt {b : Int} {L : List Mk} (h : Few b L) : srt (ltc cId) L = L := by
  refine (srt_of cId_swo ⟨?_, fun _ => rfl⟩).symm
  unfold Sd
  rw [List.pairwise_iff_getElem]
  intro i j hi hj hij
  rw [cId_neg, (h.at_ i hi).1, (h.at_ j hj).1]
  simp; omega
theorem Few.mono {b c : Int} {L : List Mk} (h : Few b L) (hc : b ≤ c) : Few c L := ⟨h.len, fun i hi => by have := h.at_ i hi; exact ⟨this.1, this.2.1, by omega, this.2.2.2⟩⟩
structure Near (b : Int) (e : Ed) : Prop where
  a : 0 ≤ e.at_ ∧ e.at_ ≤ b
  o : 0 ≤ e.out ∧ e.out ≤ b
  i : 0 ≤ e.inn ∧ e.inn ≤ b
/-- Where a mark goes, told by cases. -/
def Went (e : Ed) (x y : Mk) : Prop := y.id = x.id ∧ y.gr = x.gr ∧ ((x.at_ < e.at_ ∧ y.at_ = x.at_) ∨ (e.at_ ≤ x.at_ ∧ e.at_ + e.out < x.at_ ∧ y.at_ = x.at_ - e.out + e.inn) ∨ (e.at_ ≤ x.at_ ∧ x.at_ ≤ e.at_ + e.out ∧ x.gr = 1 ∧ y.at_ = e.at_ + e.inn) ∨ (e.at_ ≤ x.at_ ∧ x.at_ ≤ e.at_ + e.out ∧ x.gr ≠ 1 ∧ y.at_ = e.at_))
theorem Few.map {b c : Int} {L : List Mk} {e : Ed} (h : Few b L) (hw : ∀ i (hi : i < L.length), Went e L[i] (mvM e L[i])) (he : Near 1000000000000000000 e) (hc : ∀ x y : Mk, 0 ≤ x.at_ → x.at_ < b → Went e x y → y.at_ < c) : Few c (L.map (mvM e)) := by
  refine ⟨by rw [List.length_map]; exact h.len, fun i hi => ?_⟩
  rw [List.length_map] at hi
  rw [List.getElem_map]
  obtain ⟨h1, h2, h3, h4⟩ := h.at_ i hi
  obtain ⟨w1, w2, w3⟩ := hw i hi
  obtain ⟨⟨a1, a2⟩, ⟨o1, o2⟩, i1, i2⟩ := he
  exact ⟨by rw [w1, h1], by omega, hc _ _ h2 h3 (hw i hi), by omega⟩
theorem Few.mkw {b : Int} {L : List Mk} (h : Few b L) (hb : b ≤ 1000000000000000000) : ∀ x ∈ L, MkW x := fun x hx => by
  obtain ⟨i, hi, rfl⟩ := List.mem_iff_getElem.1 hx
  obtain ⟨h1, h2, h3, h4⟩ := h.at_ i hi
  have := h.len
  exact ⟨by omega, by omega, by omega⟩
theorem Near.w {e : Ed} (h : Near 1000000000000000000 e) : EdW e := ⟨by have := h.a; omega, by have := h.o; omega, by have := h.i; omega⟩
theorem Near.mono {b c : Int} {e : Ed} (h : Near b e) (hc : b ≤ c) : Near c e := ⟨by have := h.a; omega, by have := h.o; omega, by have := h.i; omega⟩
attribute [local irreducible] Sl pt ro SlB
set_option maxRecDepth 20000 in
set_option maxHeartbeats 2000000 in
theorem small_c {A : SP} {n : Int} (hn : -9223372036854775808 ≤ n ∧ n ≤ 9223372036854775807 := by first | assumption | omega) :
    Fn Try.prog 19 #[.int .i64 n] (A) (fun r B => r = .int .i64 (smS n : Nat) ∧ A = B) := by
  refine fn_enterW (args := [.int .i64 n]) Try.func19 rfl Try.ntmps19 (by simp) ?_
  have hsl := smS_lt n
  have htm := tm_small n
  refine sr ?_; refine tla ?_; refine nq ?_; refine sr ?_; refine tlm ?_; refine tv (o_rem rfl rfl (by decide)) ?_; refine tla ?_; refine nq ?_; refine tc_seq ?_; refine sr ?_; refine tlm ?_; refine tv (o_lss rfl rfl) ?_; refine nq ?_; refine tc_cond rfl (fun h => ?_) (fun h => ?_)
  · have hneg : n.tmod 1099511627776 < 0 := by first | exact of_decide_eq_true h | exact h | simpa using h
    have hn0 : ¬ 0 ≤ n := fun hc => by rw [if_pos hc] at htm; omega
    rw [if_neg hn0] at htm
    refine tc_reg ?_; refine tlm ?_; refine tv (o_neg rfl) ?_; refine tl_env (d := 8) (v := .int .i64 (smS n : Nat)) (by show Value.int .i64 (IntKind.i64.wrap (0 - n.tmod 1099511627776)) = _; rw [htm, show (0 : Int) - -(smS n : Int) = (smS n : Nat) by omega, wrap_i64 (by omega)]) ?_; refine tla ?_; refine nq ?_; refine sr ?_; refine tlm ?_; refine tla ?_; refine nq ?_; refine tc_ret ?_; refine ⟨.int .i64 (smS n : Nat), _, res1 rfl rfl, ?_, rfl, rfl⟩; exact Dr.sat (by repeat (first | with_reducible exact dr_refl | apply dr_keep | apply dr_drop))
  · have hneg : ¬ n.tmod 1099511627776 < 0 := by first | exact of_decide_eq_false h | exact h | simpa using h
    have htm2 : n.tmod 1099511627776 = (smS n : Int) := by rw [htm]; split at htm <;> omega
    refine tc_skip ?_; refine q_then_n ?_; refine sr ?_; refine tlm ?_; refine tla ?_; refine nq ?_; refine tc_ret ?_; exact ⟨.int .i64 (n.tmod 1099511627776), A, res1 rfl rfl, Dr.sat (by repeat (first | with_reducible exact dr_refl | apply dr_keep | apply dr_drop)), by rw [htm2], rfl⟩
set_option maxRecDepth 20000 in
set_option maxHeartbeats 2000000 in
theorem few_c {A : SP} {a : Option Addr} {c n : Nat} {l : List Mk} (hr : Rs A a (mcs l) := by repeat (first | assumption | with_reducible exact rs_sl | with_reducible exact rs_pt0 | exact rs_none | apply Rs.left)) (hm : l.length = n := by first | assumption | rfl) (hW : ∀ x ∈ l, MkW x := by assumption) (hs : n ≤ 1125899906842624 := by omega) :
    Fn Try.prog 16 #[.slice a n c] (A) (fun r B => ∃ L a2 c2, r = .slice a2 L.length c2 ∧ Few 1099511627776 L ∧ B = A * Sl 3 (.slice a2 L.length c2) L.length (mcs L)) := by
  refine fn_enterW (args := [.slice a n c]) Try.func16 rfl Try.ntmps16 (by simp) ?_; refine sr ?_; refine tla ?_; refine nq ?_; refine sr ?_; refine tla ?_; refine nq ?_; refine tc_seq ?_; refine sr ?_; refine tla ?_; refine nq ?_; refine tc_block ?_; refine tc_pre (A' := A * Sl 3 (.slice none 0 0) 0 (mcs (fwL (l.take 0)))) (fun _ _ h => sl_nil (Dr.sat (by repeat (first | with_reducible exact dr_refl | apply dr_keep | apply dr_drop)) _ _ h)) ?_; refine tc_loop (fun kk ρ BB => ∃ (i : Nat) (a3 : Option Addr) (c3 : Nat), (i ≤ n) ∧ (i ≤ 32) ∧ kk = n - i ∧ ρ 3 = .slice a3 i c3 ∧ ρ 4 = .int .i64 (i : Nat) ∧ ρ 0 = .slice a n c ∧ Dr BB (A * Sl 3 (.slice a3 i c3) i (mcs (fwL (l.take i))))) (m := n - (0)) ?_ ?_
  · exact ⟨0, none, 0, by omega, by omega, rfl, rfl, rfl, rfl, (by repeat (first | with_reducible exact dr_refl | apply dr_keep | apply dr_drop))⟩
  · intro k ρ B hI
    obtain ⟨i, a3, c3, hp0, hp1, hkk1, hE3, hE4, hE0, hBA⟩ := hI
    refine tc_pre hBA.sat ?_
    clear hBA
    refine tc_env (d := 3) hE3 ?_; refine tc_env (d := 4) hE4 ?_; refine tc_env (d := 0) hE0 ?_
    clear hE3 hE4 hE0
    refine tc_seq ?_; refine sr ?_; refine tlm ?_; refine tlm ?_; refine tv (o_len Try.underlying22 rfl) ?_; refine tv (o_lss rfl rfl) ?_; refine tlm ?_; refine tl_bool (d := 10) rfl (fun h => ?_) (fun h => ?_)
    · have hi0 : i < n := by first | omega | (simp at h; omega)
      refine tlm ?_; refine tv (o_lss rfl rfl) ?_; refine tv (o_pick_t rfl (by conv => lhs; whnf)) ?_; refine nq ?_; refine tc_cond rfl (fun h => ?_) (fun h => ?_)
      · have hi : i < l.length := by first | omega | (simp at h; omega)
        obtain ⟨x, hx⟩ : ∃ x, l[i] = x := ⟨_, rfl⟩
        have htk : l.take (i + 1) = l.take i ++ [x] := by rw [List.take_succ_eq_append_getElem hi, hx]
        have hi32 : i < 32 := by first | omega | (simp at h; omega)
        have hxm : x ∈ l := hx ▸ List.getElem_mem hi
        have hxW := hW x hxm
        have hxa := hxW.at_
        have hL_ : fwL (l.take (i + 1)) = fwL (l.take i) ++ [fwM i x] := by rw [htk, fwL_snoc, List.length_take, Nat.min_eq_left (by omega)]
        refine tc_skip ?_; refine q_then_n ?_; refine tc_seq ?_; refine tc_block ?_; refine sr ?_; refine tlm ?_; refine tlm ?_; refine tv (o_ixP Try.underlying22 sz35 rfl rfl (by omega) (by repeat (first | exact nn_rs hr (fun _ => by rw [mcs_len]; omega) | apply Nn.left))) ?_; refine tv (o_ldPN (vs := (x).cells) a35 sz35 rfl (by repeat (first | exact hr | apply Rs.left)) (by rw [mcs_at (by omega), hx]) rfl (by decide)) ?_; refine tl_x rfl (o_alloc z35 rfl) ?_; rintro _ _ ⟨b5, rfl, rfl⟩; refine tl_u rfl (o_stUN (l' := x.cells) rfl (by repeat (first | with_reducible exact upd_here | with_reducible exact upd_pt | apply upd_left)) sz35 rfl rfl rfl (by show 3 ≤ 3; decide) rfl) ?_; refine nq ?_; refine sr ?_; refine tlm ?_; refine tv (by first | exact o_conv32 Try.underlying3 Try.underlying33 rfl | exact o_conv Try.underlying3 Try.underlying33 rfl) ?_; refine tl_env (d := 21) (v := .int .u32 (i : Nat)) (by first | rfl | (show Value.int .u32 _ = _; congr 1; first | omega | (simp [IntKind.wrap, IntKind.bits, IntKind.signed]; omega))) ?_; refine tv (o_fieldAddr (o := 0) Try.underlying35 rfl rfl sz33 rfl) ?_; refine tl_u rfl (o_stU rfl (by repeat (first | with_reducible exact upd_here | with_reducible exact upd_pt | apply upd_left)) sz33 rfl rfl (by show 0 < 3; decide) rfl) ?_
        refine nq ?_; refine sr ?_; refine tv (o_fieldAddr (o := 1) Try.underlying35 rfl rfl sz3 rfl) ?_; refine tv (by first | exact o_load p3 rfl (by repeat (first | with_reducible exact has_here | with_reducible exact has_pt | apply has_left)) rfl | exact o_loadC p3 rfl (by assumption)) ?_; refine tl_c rfl (o_call bd19 rfl (small_c (n := x.at_))) ?_; rintro _ _ ⟨rfl, rfl⟩; refine tv (o_fieldAddr (o := 1) Try.underlying35 rfl rfl sz3 rfl) ?_; refine tl_u rfl (o_stU rfl (by repeat (first | with_reducible exact upd_here | with_reducible exact upd_pt | apply upd_left)) sz3 rfl rfl (by show 1 < 3; decide) rfl) ?_; refine nq ?_; refine sr ?_; refine tv (o_fieldAddr (o := 2) Try.underlying35 rfl rfl sz5 rfl) ?_; refine tv (by first | exact o_load p5 rfl (by repeat (first | with_reducible exact has_here | with_reducible exact has_pt | apply has_left)) rfl | exact o_loadC p5 rfl (by assumption)) ?_; refine tv (o_remN rfl rfl (by decide)) ?_; refine tv (o_fieldAddr (o := 2) Try.underlying35 rfl rfl sz5 rfl) ?_; refine tl_u rfl (o_stU rfl (by repeat (first | with_reducible exact upd_here | with_reducible exact upd_pt | apply upd_left)) sz5 rfl rfl (by show 2 < 3; decide) rfl) ?_; refine nq ?_; refine tc_reg ?_
        refine tlm ?_; refine tv (o_loadN (vs := (fwM i x).cells) a35 sz35 rfl (by repeat (first | with_reducible exact has_here | with_reducible exact has_pt | apply has_left)) (by show 3 ≤ 3; decide) rfl) ?_; refine tl_x rfl (o_buildSliceK (k := 3) (l := (fwM i x).cells) Try.underlying22 sz35 z35 rfl rfl (by decide)) ?_; rintro _ _ ⟨b33, rfl, rfl⟩; refine tl_x rfl (o_apB Try.underlying22 Try.underlying22 sz35 by35 z35 rfl (by decide) (by decide) rfl rfl rfl (by repeat (first | with_reducible exact ct_here | apply ct_left)) rfl rfl (by omega) (show _ = mcs (fwL (l.take i) ++ [fwM i x]) by rw [mcs_append]; rfl)) ?_; rintro _ _ ⟨a34, c34, rfl, hc34, rfl⟩; refine tla ?_; refine tl_nil ?_; refine q_block_n (q_then_n ?_); refine tc_reg ?_; refine tlm ?_; refine tv (by first | exact o_addI rfl rfl (by omega) | exact o_add rfl rfl) ?_; refine tla ?_; refine nq ?_; exact ⟨_, by omega, i + 1, _, _, by omega, by omega, rfl, rfl, rfl, rfl, by rw [hL_]; repeat (first | with_reducible exact dr_refl | apply dr_keep | apply dr_drop)⟩
      · try simp only [lv1, lv2, lv3, lv4, lv5, lv6, Bool.not_true, Bool.not_false] at h
        refine tc_exit ?_; refine q_then_e (q_then_e (q_block_x (q_then_n ?_))); refine sr ?_; refine tlm ?_; refine tla ?_; refine nq ?_; refine tc_ret ?_
        have el : (fwL (l.take i)).length = i := by unfold fwL; rw [List.length_mapIdx, List.length_take]; omega
        exact ⟨.slice a3 i c3, _, res1 rfl rfl, fun _ _ h => h, fwL (l.take i), a3, c3, by rw [el], fw_few _ (by rw [List.length_take]; omega), by rw [el]⟩
    · have hi0 : ¬ i < n := by first | omega | (simp at h; omega)
      refine tk ?_; refine tk ?_; refine tv (o_pick_f rfl (by conv => lhs; whnf)) ?_; refine nq ?_; refine tc_cond_f rfl ?_; refine tc_exit ?_; refine q_then_e (q_then_e (q_block_x (q_then_n ?_))); refine sr ?_; refine tlm ?_; refine tla ?_; refine nq ?_; refine tc_ret ?_
      have el : (fwL (l.take i)).length = i := by unfold fwL; rw [List.length_mapIdx, List.length_take]; omega
      exact ⟨.slice a3 i c3, _, res1 rfl rfl, fun _ _ h => h, fwL (l.take i), a3, c3, by rw [el], fw_few _ (by rw [List.length_take]; omega), by rw [el]⟩
end Go.Vl

set_option linter.unusedVariables false
set_option linter.unusedSimpArgs false
namespace Go.Vl
open Go Go.Proofs
theorem flatG {α : Type} {f : α → List Value} : ∀ {Cs : List (List Value)} {xs : List α} (_ : Cs.length = xs.length) (_ : ∀ i (h : i < xs.length) (h' : i < Cs.length), Cs[i] = f xs[i]), Cs.flatten = xs.flatMap f
  | [], [], _, _ => rfl
  | c :: Cs, x :: xs, hl, h => by
    have h0 := h 0 (by simp) (by simp)
    simp only [List.getElem_cons_zero] at h0
    rw [List.flatten_cons, h0, flatG (f := f) (Cs := Cs) (xs := xs) (by simpa using hl) (fun i hi hi' => h (i + 1) (by simpa using hi) (by simpa using hi')), List.flatMap_cons]
theorem three_ofG {α : Type} : ∀ {l : List α}, l.length = 3 → ∃ a b c, l = [a, b, c]
  | [a, b, c], _ => ⟨a, b, c, rfl⟩
set_option maxRecDepth 20000 in
theorem rdb_mk (W : World) : Rdb Try.prog W 35 (fun cs (x : Mk) => cs = x.cells ∧ MkW x) := fun H enc sp hd fu cs d pl h hw => by
  obtain ⟨hl, hf⟩ := rdb_fields Try.underlying35 h hw
  have hc : Try.prog.cellsOf 35 = 3 := by kernel_rfl
  have hci : Try.prog.cellsOf 3 = 1 := by kernel_rfl
  have hc3 : Try.prog.cellsOf 33 = 1 := by kernel_rfl
  have hc8 : Try.prog.cellsOf 5 = 1 := by kernel_rfl
  rw [hc] at hl
  obtain ⟨x, e0, w0⟩ := hf 0 _ rfl (rdb_int Try.underlying33)
  obtain ⟨y, e1, w1⟩ := hf 1 _ rfl (rdb_int Try.underlying3)
  obtain ⟨z, e2, w2⟩ := hf 2 _ rfl (rdb_int Try.underlying5)
  obtain ⟨c0, c1, c2, rfl⟩ := three_ofG hl
  simp [hc3] at e0
  simp [hci] at e1
  simp [hc8] at e2
  subst e0 e1 e2
  have b0 := Go.bounds_u32 w0
  have b2 := Go.bounds_u8 w2
  obtain ⟨i, rfl⟩ := Int.eq_ofNat_of_zero_le b0.1
  obtain ⟨g, rfl⟩ := Int.eq_ofNat_of_zero_le b2.1
  exact ⟨⟨i, y, g⟩, rfl, ⟨by show i < 4294967296; omega, i64_wf w1, by show g < 256; omega⟩⟩
def PMkG (A : SP) (cs : List Value) (l : List Mk) : Prop := ∃ a c, cs = [.slice a l.length c] ∧ l.length ≤ c ∧ l.length * 24 ≤ reachBytes ∧ Rs A a (mcs l) ∧ ∀ x ∈ l, MkW x
theorem rdb_mks (W : World) : Rdb Try.prog W 22 (PMkG (old W)) :=
  (rdb_slice (k := 3) (b := 24) Try.underlying22 (by kernel_rfl) (by kernel_rfl) (by decide) (rdb_mk W)).mono fun cs xs ⟨a, cap, Cs, e1, hc, hs, hl, hx, hr⟩ => by
    refine ⟨xs, ⟨a, cap, e1, hc, hs, ?_, fun x hx' => ?_⟩⟩
    · rw [show mcs xs = Cs.flatten from (flatG hl (fun i h h' => (hx i h h').2.1)).symm]; exact hr
    · obtain ⟨i, hi, rfl⟩ := List.mem_iff_getElem.1 hx'
      exact (hx i hi (by omega)).2.2
theorem reach_mk {n : Nat} (h : n * 24 ≤ reachBytes) : n ≤ 1125899906842624 := by
  have : reachBytes ≤ 140737488355328 := by decide
  omega
end Go.Vl

set_option linter.unusedVariables false
set_option linter.unusedSimpArgs false
namespace Go.Vl
open Go Go.Proofs
section
variable {P : Program} {n : Nat} {ρ : Env} {A : SP} {dst : Option Tmp} {ty : TypeId} {pos : String} {after : Array Edge} {gd : Option (Nat × Bool)}
theorem o_nestr {t t' : TypeId} {x y : Operand} {a b : ByteArray} (hx : ev n ρ x = .string a) (hy : ev n ρ y = .string b) :
    OpV P n ρ A ⟨dst, .binOp .neq t x y t', ty, pos, after, gd⟩ (.bool (decide (a.toList ≠ b.toList))) :=
  opv_of fun w => by
  simp only [execOp, hx, hy]
  rw [run_bind (w' := w) (a := .bool (decide (a.toList ≠ b.toList)))]
  · rfl
  rw [run_bind (w' := w) (a := ())]
  · by_cases h : a.toList = b.toList <;> simp [binOp, Op.stringOp, pure, h]
  · rfl
end
/-- The mark that sixteen bytes tell. -/
def mkA (X : List Nat) : Mk := ⟨nm (X.take 4), (nm ((X.drop 4).take 8) : Nat), X.getD 12 0⟩
def farA (X : List Nat) : Bool := decide (9223372036854775807 < nm ((X.drop 4).take 8))
def unL (X : List Nat) (n : Nat) : List Mk := (List.range n).map fun k => mkA (X.drop (16 * k))
def unpS (s : ByteArray) : List Mk × Int := if s.size % 16 ≠ 0 ∨ 512 < s.size then ([], 190) else if (List.range (s.size / 16)).any (fun k => farA ((sbys s).drop (16 * k))) then ([], 190) else if (packS (unL (sbys s) (s.size / 16))).2 = 0 ∧ (packS (unL (sbys s) (s.size / 16))).1.toList = s.toList then (unL (sbys s) (s.size / 16), 0) else ([], 190)
theorem unL_succ (X : List Nat) (k : Nat) : unL X (k + 1) = unL X k ++ [mkA (X.drop (16 * k))] := by unfold unL; rw [List.range_succ, List.map_append]; rfl
theorem unL_len (X : List Nat) (k : Nat) : (unL X k).length = k := by unfold unL; simp
theorem nm_lt_of {s : ByteArray} {Y : List Nat} (h : ∀ x ∈ Y, x ∈ sbys s) {k : Nat} (hl : Y.length ≤ k) : nm Y < 256 ^ k := by
  have hb : ∀ x ∈ Y, x < 256 := fun x hx => by obtain ⟨b, _, rfl⟩ := List.mem_map.1 (h x hx); exact b.toNat_lt
  exact Nat.lt_of_lt_of_le (nm_lt _ hb) (Nat.pow_le_pow_right (by decide) hl)
theorem sbys_b {s : ByteArray} {i : Nat} : (sbys s).getD i 0 < 256 := by
  rw [List.getD_eq_getElem?_getD]
  cases h : (sbys s)[i]? with
  | none => decide
  | some v =>
    obtain ⟨b, _, rfl⟩ := List.mem_map.1 (List.mem_of_getElem? h)
    exact b.toNat_lt
theorem unL_w {s : ByteArray} {n : Nat} (h : ∀ k, k < n → farA ((sbys s).drop (16 * k)) = false) : ∀ x ∈ unL (sbys s) n, MkW x := fun x hx => by
  obtain ⟨k, hk, rfl⟩ := List.mem_map.1 hx
  have h1 := of_decide_eq_false (h k (List.mem_range.1 hk))
  have h4 : nm (((sbys s).drop (16 * k)).take 4) < 256 ^ 4 := nm_lt_of (s := s) (fun x hx => List.mem_of_mem_drop (List.mem_of_mem_take hx)) (List.length_take_le _ _)
  refine ⟨by show nm _ < _; omega, ⟨by show _ ≤ ((nm _ : Nat) : Int); omega, by show ((nm _ : Nat) : Int) ≤ _; omega⟩, ?_⟩
  show ((sbys s).drop (16 * k)).getD 12 0 < 256
  rw [List.getD_eq_getElem?_getD, List.getElem?_drop, ← List.getD_eq_getElem?_getD]
  exact sbys_b
attribute [local irreducible] Sl pt ro SlB
end Go.Vl

set_option linter.unusedVariables false
set_option linter.unusedSimpArgs false
namespace Go.Vl
open Go Go.Proofs
section
variable {P : Program} {n : Nat} {ρ : Env} {A : SP} {dst : Option Tmp} {ty : TypeId} {pos : String} {after : Array Edge} {gd : Option (Nat × Bool)}
theorem o_s2b {s t e : TypeId} {x : Operand} {str : ByteArray} (hs0 : P.underlying s = some .string) (ht : P.underlying t = some (.slice e)) (he : P.underlying e = some (.int .u8)) (hx : ev n ρ x = .string str) :
    OpX P n ρ A ⟨dst, .convert s t x, ty, pos, after, gd⟩ (fun v B => ∃ b c o, v = .slice (some ⟨b, 0, none⟩) str.size c ∧ str.size ≤ c ∧ (∀ R : SP, Rs (R * pt b o) (some ⟨b, 0, none⟩) (bys (sbys str))) ∧ B = A * pt b o) := fun g w hs => by
  obtain ⟨L, hL⟩ : ∃ L, (Go.Lib.bytesCells w e str).toList = L := ⟨_, rfl⟩
  have hLa : Go.Lib.bytesCells w e str = L.toArray := by rw [← hL]
  have hsd : sat g w.drew A := hs.draw rfl rfl rfl rfl
  have hsz : w.drew.heap.size = w.heap.size := rfl
  have h2 := hsd.alloc (cl L e)
  rw [hsz] at h2
  have hu : Upd (A * pt w.heap.size (cl L e)) w.heap.size (cl L e) (.cells L.toArray e (L.length, L.length + 1)) (A * pt w.heap.size (.cells L.toArray e (L.length, L.length + 1))) := upd_here
  have hw' : Go.Lib.bytesWorld w e str = (w.drew.alloc (cl L e)).freeze ⟨w.heap.size, L.length, none⟩ 1 := by
    unfold Go.Lib.bytesWorld
    rw [hLa]; rfl
  have h3 : sat g (Go.Lib.bytesWorld w e str) (A * pt w.heap.size (.cells L.toArray e (L.length, L.length + 1))) := by
    rw [hw']
    refine hu.sat h2 (fun k => ?_) rfl rfl rfl
    unfold World.freeze
    rw [if_neg (by decide)]
    show ((w.drew.alloc (cl L e)).heap.modify w.heap.size _)[k]? = _
    rw [Array.getElem?_modify]
    by_cases hk : w.heap.size = k
    · subst hk; rw [if_pos rfl, if_pos rfl, hu.has g _ h2]; simp [cl]
    · rw [if_neg hk, if_neg (Ne.symm hk)]
  refine ⟨_, Go.Lib.bytesWorld w e str, _, ?_, h3, w.heap.size, _, _, rfl, grownCap_ge w str.size 0 e, fun R => ?_, rfl⟩
  · simp only [execOp, hx]
    rw [run_bind (Go.Lib.run_convert_string_bytes w s t e str hs0 ht he)]
    rfl
  · have hr := rs_mk (R := R) (b := w.heap.size) (l := L) (E := e) (fz := (L.length, L.length + 1))
    have hp : L.take str.size = bys (sbys str) := by
      rw [← hL]
      unfold Go.Lib.bytesCells
      rw [Array.toList_append, List.take_left' (by simp)]
      simp [bys, sbys, b8]
    rw [← hp]
    exact hr.sub _
theorem o_slice3 {t e : TypeId} {x y z u : Operand} {a : Option Addr} {len cap l h m k : Nat} {k1 k2 k3 : IntKind} (hu : P.underlying t = some (.slice e)) (hk : szE P e = some k) (hx : ev n ρ x = .slice a len cap)
    (hl : ev n ρ y = .int k1 (l : Nat)) (hh : ev n ρ z = .int k2 (h : Nat)) (hm : ev n ρ u = .int k3 (m : Nat)) (h1 : l ≤ h) (h2 : h ≤ m) (h3 : m ≤ cap) :
    OpV P n ρ A ⟨dst, .slice t x (some y) (some z) (some u), ty, pos, after, gd⟩ (.slice (cutAddr a m l k) (h - l) (m - l)) := opv_of fun w => by
  simp only [execOp, hx, Option.map_some, hl, hh, hm]
  rw [run_bind (w' := w) (a := .slice (cutAddr a m l k) (h - l) (m - l))]
  · rfl
  unfold Instr.sliceAt
  rw [run_bind (run_und hu)]
  try simp only []
  unfold Instr.slice
  rw [run_bind (run_und hu)]
  try simp only []
  have : (Instr.sliceBounds true len cap (some (Value.int k1 (l : Nat))) (some (Value.int k2 (h : Nat))) (some (Value.int k3 (m : Nat)))).run P w = .ok (l, h, m) w := by
    unfold Instr.sliceBounds
    simp only [Option.isSome_some, if_true]
    rw [run_bind (run_bound h3)]
    try simp only []
    rw [run_bind (run_bound h2)]
    rw [run_bind (run_bound h1)]
    rfl
  rw [run_bind this]
  try simp only []
  rw [run_bind (run_size hk)]
  rfl
end
end Go.Vl

set_option linter.unusedVariables false
set_option linter.unusedSimpArgs false
namespace Go.Vl
open Go Go.Proofs
namespace Rg
section
variable {P : Program} {n : Nat} {ops : Array Oper} {A : SP} {ρ : Env} {o : Oper} {rest : List Oper} {Q : Post}
def QL (P : Program) (n : Nat) (ops : Array Oper) (A : SP) (K : Env → Prop) (l : List Oper) (ρ : Env) : Prop :=
  ∀ g a, Agr n ρ a → wpQuietIn (Fc ⟨none⟩) 0 P ops (fun w => sat g w A) (fun a' => ∃ ρ', Agr n ρ' a' ∧ K ρ') l a
theorem ql_nil {K : Env → Prop} (h : K ρ) : QL P n ops A K [] ρ := fun g a ha => wpQuietIn_nil ⟨ρ, ha, h⟩
theorem ql_skip {K : Env → Prop} (hw : wantE n ops ρ o = false) (k : QL P n ops A K rest (put n ρ o.dst undef)) : QL P n ops A K (o :: rest) ρ := fun g a ha => by
  unfold wpQuietIn
  rw [want_eq ha, hw]
  exact ⟨fun _ _ _ _ => trivial, k g _ (ha.put _ _)⟩
theorem ql_v {K : Env → Prop} {v : Value} (hw : wantE n ops ρ o = true) (h : OpV P n ρ A o v) (k : QL P n ops A K rest (put n ρ o.dst v)) : QL P n ops A K (o :: rest) ρ := fun g a ha => by
  unfold wpQuietIn
  rw [want_eq ha, hw, if_pos rfl]
  refine ⟨fun _ _ _ _ => trivial, v, fun w hs => ?_, k g _ (ha.put _ _)⟩
  unfold Oper.quietAtIn
  rw [ha.eval, h g w hs]
  exact ⟨rfl, rfl⟩
theorem ql_env {K : Env → Prop} {l : List Oper} {d : Nat} {v : Value} (h : ρ d = v) (k : QL P n ops A K l (upd ρ d v)) : QL P n ops A K l ρ := by
  rw [← env_set h] at k; exact k
theorem ql_bool {K : Env → Prop} {l : List Oper} {d : Nat} {b : Bool} (hv : ρ d = .bool b) (ht : b = true → QL P n ops A K l (upd ρ d (.bool true))) (hf : b = false → QL P n ops A K l (upd ρ d (.bool false))) : QL P n ops A K l ρ := by
  cases b with
  | true => exact ql_env hv (ht rfl)
  | false => exact ql_env hv (hf rfl)
theorem tc_regq {id : Nat} {l : List Oper} (hm : P.follows .mixedOrders = true) (hB : Region.lexB .any l.toArray = true) (h : QL P n l.toArray A (fun ρ' => Q .normal ρ' A) l ρ) :
    @TC ⟨none⟩ P n (.region id l.toArray true) Q ρ A := fun g a w ha hs => by
  refine wpIn_region_quiet (C := fun w => sat g w A) rfl hm hB (hs.draw rfl rfl rfl rfl) ?_
  have hh := h g a ha
  have he : l.toArray.toList = l := by simp
  rw [he]
  have mono : ∀ (l' : List Oper) (a : Act), wpQuietIn (Fc ⟨none⟩) 0 P l.toArray (fun w => sat g w A) (fun a' => ∃ ρ', Agr n ρ' a' ∧ Q .normal ρ' A) l' a →
      wpQuietIn (Fc ⟨none⟩) 0 P l.toArray (fun w => sat g w A) (fun a' => ∀ w', sat g w' A → lift g n Q .normal a' w') l' a := by
    intro l'
    induction l' with
    | nil => intro a ⟨ρ', h1, h2⟩ w' hw'; exact ⟨rfl, ρ', A, h1, hw', h2⟩
    | cons o l' ih =>
      intro a h
      unfold wpQuietIn at h ⊢
      refine ⟨h.1, ?_⟩
      have h2 := h.2
      split
      · rename_i hw
        rw [if_pos hw] at h2
        exact Oper.quietIn_mono (fun a => ih a) h2
      · rename_i hw
        rw [if_neg hw] at h2
        exact ih _ h2
  exact mono l a hh
end
end Rg
end Go.Vl

set_option linter.unusedVariables false
set_option linter.unusedSimpArgs false
namespace Go.Vl
open Go Go.Proofs
attribute [local irreducible] Sl pt ro SlB
namespace Rg
theorem chunk1_f {b c l N q1 q2 : Nat} {J : Nat → SP → Prop} {X : SP → Prop} {S0 : SP} (h1 : 16 * N ≤ c) (h2 : N ≤ 1099511627776) (h0 : J 0 S0) (hY : ∀ F i S, i < N → J i S → Yd Try.prog l #[.slice (some ⟨b, 16 * i, none⟩) 16 16] (F * S) (fun v B => ∃ (b : Bool) (S' : SP), v = .bool b ∧ (b = true → J (i + 1) S') ∧ (b = false → X S') ∧ B = F * S')) :
    Fn Try.prog 68 #[.func (.yield l) #[] #[], .pointer (some ⟨q1, 0, none⟩), .pointer (some ⟨q2, 0, none⟩)] (S0 * pt q1 (cl [.slice (some ⟨b, 0, none⟩) (16 * N) c] 62) * pt q2 (cl [.int .i64 16] 3)) (fun r B => r = .tuple #[] ∧ ((∃ S, J N S ∧ B = S * pt q1 (cl [.slice (some ⟨b, 0, none⟩) (16 * N) c] 62) * pt q2 (cl [.int .i64 16] 3)) ∨ ∃ S, X S ∧ B = S * pt q1 (cl [.slice (some ⟨b, 0, none⟩) (16 * N) c] 62) * pt q2 (cl [.int .i64 16] 3))) := by
  refine fn_enterW (args := [.func (.yield l) #[] #[], .pointer (some ⟨q1, 0, none⟩), .pointer (some ⟨q2, 0, none⟩)]) Try.func68 rfl Try.ntmps68 (by simp) ?_; refine tc_seq ?_; refine tc_reg ?_; refine tla ?_; refine tl_nil ?_; refine q_then_n ?_; refine tc_block ?_; refine tc_loop (fun kk ρ BB => ∃ (k : Nat) (S : SP), (k ≤ N) ∧ (J k S) ∧ kk = N - k ∧ ρ 4 = .int .i64 ((16 * k : Nat) : Int) ∧ ρ 31 = undef ∧ ρ 0 = .func (.yield l) #[] #[] ∧ ρ 1 = .pointer (some ⟨q1, 0, none⟩) ∧ ρ 2 = .pointer (some ⟨q2, 0, none⟩) ∧ BB = S * pt q1 (cl [.slice (some ⟨b, 0, none⟩) (16 * N) c] 62) * pt q2 (cl [.int .i64 16] 3)) (m := N - (0)) ?_ ?_
  · exact ⟨0, S0, by omega, h0, rfl, rfl, rfl, rfl, rfl, rfl, rfl⟩
  · intro k ρ B hI
    obtain ⟨k, S, hp0, hp1, hkk1, hE4, hE31, hE0, hE1, hE2, rfl⟩ := hI
    refine tc_env (d := 4) hE4 ?_; refine tc_env (d := 31) hE31 ?_; refine tc_env (d := 0) hE0 ?_; refine tc_env (d := 1) hE1 ?_; refine tc_env (d := 2) hE2 ?_
    clear hE4 hE31 hE0 hE1 hE2
    refine tc_seq ?_; refine tc_seq ?_; refine tc_reg ?_; refine tlm ?_; refine tl_v rfl (by first | exact o_load p62 rfl (by repeat (first | with_reducible exact has_here | with_reducible exact has_pt | apply has_left)) rfl | exact o_loadC p62 rfl (by assumption)) ?_; refine tl_v rfl (o_len Try.underlying62 rfl) ?_; refine tl_v rfl (o_lss rfl rfl) ?_; refine tl_nil ?_; refine q_then_n ?_; refine tc_cond rfl (fun h => ?_) (fun h => ?_)
    · have hk : k < N := by first | omega | (simp at h; omega)
      refine tc_skip ?_; refine q_then_n ?_; refine tc_seq ?_; refine tc_block ?_; refine tc_seq ?_; refine tc_regq mo (by kernel_rfl) ?_; refine ql_v rfl (by first | exact o_load p3 rfl (by repeat (first | with_reducible exact has_here | with_reducible exact has_pt | apply has_left)) rfl | exact o_loadC p3 rfl (by assumption)) ?_; refine ql_v rfl (by first | exact o_load p62 rfl (by repeat (first | with_reducible exact has_here | with_reducible exact has_pt | apply has_left)) rfl | exact o_loadC p62 rfl (by assumption)) ?_; refine ql_v rfl (o_move (by conv => lhs; whnf)) ?_; refine ql_v rfl (o_slice (l := 16 * k) (h := 16 * N) Try.underlying62 sz5 rfl (bnd_nat rfl) bnd_none (by omega) (by omega)) ?_; refine ql_v rfl (o_len Try.underlying62 rfl) ?_; refine ql_v rfl (o_min rfl rfl) ?_; refine ql_env (d := 18) (v := .int .i64 ((16 : Nat) : Int)) (by show Value.int .i64 _ = _; congr 1; omega) ?_; refine ql_v rfl (o_assign (by conv => lhs; whnf)) ?_; refine ql_nil ?_; refine q_then_n ?_; refine tc_seq ?_; refine tc_reg ?_; refine tlm ?_; refine tl_v rfl (by first | exact o_load p62 rfl (by repeat (first | with_reducible exact has_here | with_reducible exact has_pt | apply has_left)) rfl | exact o_loadC p62 rfl (by assumption)) ?_; refine tlm ?_; refine tlm ?_; refine tlm ?_; refine tl_v rfl (by first | exact o_addI rfl rfl (by omega) | exact o_add rfl rfl) ?_; refine tl_env (d := 24) (v := .int .i64 ((16 * k + 16 : Nat) : Int)) (by first | rfl | (show Value.int .i64 _ = _; congr 1)) ?_
      refine tlm ?_; refine tlm ?_; refine tl_v rfl (by first | exact o_addI rfl rfl (by omega) | exact o_add rfl rfl) ?_; refine tl_env (d := 27) (v := .int .i64 ((16 * k + 16 : Nat) : Int)) (by first | rfl | (show Value.int .i64 _ = _; congr 1)) ?_; refine tl_v rfl (o_slice3 (l := 16 * k) (h := 16 * k + 16) (m := 16 * k + 16) Try.underlying62 sz5 rfl rfl rfl rfl (by omega) (by omega) (by omega)) ?_; refine tl_env (d := 28) (v := .slice (some ⟨b, 16 * k, none⟩) 16 16) (by show Value.slice (cutAddr _ _ (16 * k) 1) (16 * k + 16 - 16 * k) (16 * k + 16 - 16 * k) = _; rw [cut_lt (by omega), show 16 * k + 16 - 16 * k = 16 by omega]; congr 3; omega) ?_; refine tl_y rfl rfl rfl (yd_b (F := pt q1 (cl [.slice (some ⟨b, 0, none⟩) (16 * N) c] 62) * pt q2 (cl [.int .i64 16] 3)) (G := fun S' => S' * pt q1 (cl [.slice (some ⟨b, 0, none⟩) (16 * N) c] 62) * pt q2 (cl [.int .i64 16] 3)) (hY _ k S (by omega) hp1) (by ac_rfl) (fun S' => by ac_rfl)) ?_; rintro _ _ ⟨b29, S2, rfl, hT, hF, rfl⟩; refine tl_v rfl (o_not rfl) ?_; refine tl_nil ?_; refine q_then_n ?_; refine tc_cond rfl (fun h => ?_) (fun h => ?_)
      · have hb : b29 = false := by simpa using h
        subst hb
        refine tc_ret ?_; refine q_block_r (q_then_r (q_then_r (q_block_r ?_))); exact ⟨[], _, rfl, fun _ _ h => mk0 h, .tuple #[], S2 * pt q1 (cl [.slice (some ⟨b, 0, none⟩) (16 * N) c] 62) * pt q2 (cl [.int .i64 16] 3), res0 rfl, fun _ _ h => h, rfl, .inr ⟨S2, hF rfl, rfl⟩⟩
      · have hb : b29 = true := by simpa using h
        subst hb
        refine tc_skip ?_; refine q_block_n (q_then_n ?_); refine tc_reg ?_; refine tlm ?_; refine tl_v rfl (by first | exact o_load p3 rfl (by repeat (first | with_reducible exact has_here | with_reducible exact has_pt | apply has_left)) rfl | exact o_loadC p3 rfl (by assumption)) ?_; refine tl_v rfl (by first | exact o_addI rfl rfl (by omega) | exact o_add rfl rfl) ?_; refine tl_env (d := 12) (v := .int .i64 ((16 * (k + 1) : Nat) : Int)) (by first | rfl | (show Value.int .i64 _ = _; congr 1)) ?_; refine tla ?_; refine tl_nil ?_; refine q_then_n ?_; exact ⟨_, by omega, k + 1, _, by omega, hT rfl, rfl, rfl, rfl, rfl, rfl, rfl, rfl⟩
    · have hk : ¬ k < N := by first | omega | (simp at h; omega)
      refine tc_exit ?_; refine q_then_e (q_then_e (q_block_x ?_))
      obtain rfl : N = k := by omega
      exact ⟨[], _, rfl, fun _ _ h => mk0 h, .tuple #[], S * pt q1 (cl [.slice (some ⟨b, 0, none⟩) (16 * N) c] 62) * pt q2 (cl [.int .i64 16] 3), res0 rfl, fun _ _ h => h, rfl, .inl ⟨S, hp1, rfl⟩⟩
end Rg
theorem starM2 (S a b : SP) : S * (a * b) = S * a * b := (star_assoc _ _ _).symm
theorem chunk_it {b c N q1 q2 : Nat} (h1 : 16 * N ≤ c) (h2 : N ≤ 1099511627776) :
    Rg.It Try.prog 68 [] [.pointer (some ⟨q1, 0, none⟩), .pointer (some ⟨q2, 0, none⟩)] (pt q1 (cl [.slice (some ⟨b, 0, none⟩) (16 * N) c] 62) * pt q2 (cl [.int .i64 16] 3)) N (fun i => [.slice (some ⟨b, 16 * i, none⟩) 16 16]) := fun l J X S0 h0 hY => by
  have hk : ∀ S : SP, S * (pt q1 (cl [.slice (some ⟨b, 0, none⟩) (16 * N) c] 62) * pt q2 (cl [.int .i64 16] 3)) = S * pt q1 (cl [.slice (some ⟨b, 0, none⟩) (16 * N) c] 62) * pt q2 (cl [.int .i64 16] 3) := fun S => starM2 _ _ _
  rw [hk S0]
  refine (Rg.chunk1_f (J := J) (X := X) h1 h2 h0 hY).mono ?_; rintro v B ⟨rfl, ⟨S, hS, rfl⟩ | ⟨S, hS, rfl⟩⟩
  · exact ⟨rfl, .inl ⟨S, hS, (hk S).symm⟩⟩
  · exact ⟨rfl, .inr ⟨S, hS, (hk S).symm⟩⟩
theorem chunk_c {A : SP} {b c N : Nat} :
    Fn Try.prog 51 #[.slice (some ⟨b, 0, none⟩) (16 * N) c, .int .i64 16] (A) (fun r B => ∃ q1 q2, r = .func (.func 68) #[] #[.pointer (some ⟨q1, 0, none⟩), .pointer (some ⟨q2, 0, none⟩)] ∧ B = A * (pt q1 (cl [.slice (some ⟨b, 0, none⟩) (16 * N) c] 62) * pt q2 (cl [.int .i64 16] 3))) := by
  refine fn_enterW (args := [.slice (some ⟨b, 0, none⟩) (16 * N) c, .int .i64 16]) Try.func51 rfl Try.ntmps51 (by simp) ?_; refine sr ?_; refine tl_x rfl (o_box rfl rfl) ?_; rintro _ _ ⟨b2, rfl, rfl⟩; refine tl_x rfl (o_box rfl rfl) ?_; rintro _ _ ⟨b3, rfl, rfl⟩; refine tla ?_; refine nq ?_; refine tc_seq ?_; refine sr ?_; refine tv (by first | exact o_load p3 rfl (by repeat (first | with_reducible exact has_here | with_reducible exact has_pt | apply has_left)) rfl | exact o_loadC p3 rfl (by assumption)) ?_; refine tv (o_lss rfl rfl) ?_; refine nq ?_; refine tc_cond rfl (fun h => ?_) (fun h => ?_)
  · exfalso; simp at h
  · try simp only [lv1, lv2, lv3, lv4, lv5, lv6, Bool.not_true, Bool.not_false] at h
    refine tc_skip ?_; refine q_then_n ?_; refine sr ?_; refine tv (o_makeFunc rfl rfl) ?_; refine tla ?_; refine nq ?_; refine tc_ret ?_; exact ⟨_, _, res1 rfl rfl, fun _ _ h => h, b2, b3, rfl, (starM2 _ _ _).symm⟩
end Go.Vl

set_option linter.unusedVariables false
set_option linter.unusedSimpArgs false
namespace Go.Vl
open Go Go.Proofs
namespace Rg
section
variable {P : Program} {m : Nat} {ops : Array Oper} {μ : Rm}
/-- No operation of a row is a defer: by reckoning. -/
def nodB (l : List Oper) : Bool := l.all fun o => match o.op with | .defer _ => false | _ => true
theorem nod_of {l : List Oper} (h : nodB l = true) : ∀ (i : Nat) (o : Oper), l.toArray[i]? = some o → ∀ c, o.op ≠ .defer c := fun i o hi c e => by
  have h1 := List.all_eq_true.1 h o (List.mem_of_getElem? (by simpa using hi))
  simp [e] at h1
theorem upon_tr {o : Oper} {a : Act} {K : Act → World → Prop} {Q : Exit → Act → World → Prop} {r : Result Next} : Oper.uponIn (Fc ⟨none⟩) m P o a K Q r = Oper.uponIn (Fc μ) m P o a K Q r := by
  cases r with
  | ok x w => cases x <;> rfl
  | halt x w => cases x <;> rfl
theorem op_tr {i : Nat} {K : Act → World → Prop} {Q : Exit → Act → World → Prop} {a : Act} {w : World} (hnd : ∀ (i : Nat) (o : Oper), ops[i]? = some o → ∀ c, o.op ≠ .defer c) (h : wpOpIn (Fc ⟨none⟩) m P ops Q i K a w) : wpOpIn (Fc μ) m P ops Q i K a w := by
  unfold wpOpIn at *
  cases hi : ops[i]? with
  | none => simpa [hi] using h
  | some o =>
    simp only [hi] at h ⊢
    split
    · rename_i hw
      simp only [hw, if_true] at h
      unfold Oper.wpIn at *
      rw [Oper.semAt_eq _ _ _ (hnd i o hi)] at h ⊢
      rw [← upon_tr]
      exact h
    · rename_i hw
      simp only [hw] at h
      exact h
theorem any_tr {Q : Exit → Act → World → Prop} (hnd : ∀ (i : Nat) (o : Oper), ops[i]? = some o → ∀ c, o.op ≠ .defer c) : ∀ (fuel : Nat) (listed : Array Bool) (a : Act) (w : World), wpAnyIn (Fc ⟨none⟩) m P .any ops Q fuel listed a w → wpAnyIn (Fc μ) m P .any ops Q fuel listed a w
  | 0, _, _, _, h => h
  | fuel + 1, _, _, _, h => ⟨h.1, fun i hi => op_tr hnd (wpOpIn_mono (fun a w => any_tr hnd fuel _ a w) (h.2 i hi))⟩
/-- What is left of a region in a round: by what is left of it in a function. -/
theorem tc_regt {n : Nat} {Q : Post} {ρ : Env} {A : SP} {id : Nat} {l : List Oper} (hm : P.follows .mixedOrders = true) (hd : nodB l = true)
    (h : ∀ g a w, Agr n ρ a → sat g w A → wpAnyIn (Fc ⟨none⟩) 0 P .any l.toArray (lift g n Q) l.length (Array.replicate l.length false) a w) : @TC μ P n (.region id l.toArray true) Q ρ A := fun g a w ha hs =>
  wpIn_region_any hm (by
    have h1 := h g a { w with drawn := w.drawn + 1 } ha (hs.draw rfl rfl rfl rfl)
    have h2 := any_tr (μ := μ) (nod_of hd) _ _ _ _ h1
    simpa using h2)
end
end Rg
end Go.Vl

set_option linter.unusedVariables false
set_option linter.unusedSimpArgs false
namespace Go.Vl
open Go Go.Proofs
namespace Rg
section
variable {P : Program} {n : Nat} {ops : Array Oper} {A S : SP} {ρ : Env} {o : Oper} {Q : Post}
def notCall (o : Oper) : Bool := match o.op with | .call _ => false | _ => true
theorem about_none {o : Oper} (h : notCall o = true) (w : World) (e : Operand → Value) : o.about P w e = none := by
  unfold notCall at h
  unfold Oper.about
  cases ho : o.op <;> first | rfl | (simp [ho] at h)
def TH (P : Program) (n : Nat) (ops : Array Oper) (Q : Post) (S : SP) (fuel : Nat) (listed : Array Bool) (ρ : Env) (A : SP) : Prop :=
  ∀ g a w, Agr n ρ a → sat g w A → wpAnyIn (Fc ⟨none⟩) 0 P .any ops (lift g n Q) fuel listed a w
theorem tc_regh {μ : Rm} {id : Nat} {l : List Oper} (hm : P.follows .mixedOrders = true) (hd : Dr A S) (h : TH P n l.toArray Q S l.length (Array.replicate l.length false) ρ A) (hn : nodB l = true := by kernel_rfl) : @TC μ P n (.region id l.toArray true) Q ρ A :=
  tc_regt hm hn h
theorem th_done {fuel : Nat} {listed : Array Bool} (hr : Region.ready .any ops listed = []) (h : Q .normal ρ A) : TH P n ops Q S fuel listed ρ A := fun g a w ha hs =>
  wpAnyIn_done hr ⟨rfl, ρ, A, ha, hs, h⟩ fuel
theorem th_take {fuel i : Nat} {listed listed' : Array Bool} {v : Value} (hi : ops[i]? = some o) (hs' : Region.noSelect ops = true) (hf : Region.free .any ops listed i = true) (hr : (Region.ready .any ops listed).contains i = true)
    (hl : listed.setIfInBounds i true = listed') (hw : wantE n ops ρ o = true) (hv : OpV P n ρ emp o v) (k : TH P n ops Q S fuel listed' (put n ρ o.dst v) A) (hc : notCall o = true := by rfl) : TH P n ops Q S (fuel + 1) listed ρ A := fun g a w ha hs =>
  wpAnyIn_take rfl hi hs' hf hr (fun c a w h => absurd h.1 (by simp [okE])) ⟨.inl ⟨by rw [want_eq ha, hw], fun w' => by
    rw [ha.eval]
    exact hv ⟨w'.os, w'.tape, w'.output⟩ w' ⟨rfl, rfl, rfl, _, rfl, fun _ _ _ h => by cases h⟩⟩, fun w' => about_none hc w' _⟩ (by rw [hl]; exact k g _ w (ha.put _ _) hs)
def OH (P : Program) (n : Nat) (ops : Array Oper) (Q : Post) (S : SP) (fuel i : Nat) (listed : Array Bool) (ρ : Env) (A : SP) : Prop :=
  ∀ g a w, Agr n ρ a → sat g w A → wpOpIn (Fc ⟨none⟩) 0 P ops (lift g n Q) i (wpAnyIn (Fc ⟨none⟩) 0 P .any ops (lift g n Q) fuel (listed.setIfInBounds i true)) a w
theorem th_all {fuel : Nat} {listed : Array Bool} {rs : List Nat} (hr : Region.ready .any ops listed = rs) (hne : rs ≠ []) (h : ∀ i ∈ rs, OH P n ops Q S fuel i listed ρ A) : TH P n ops Q S (fuel + 1) listed ρ A := fun g a w ha hs =>
  wpAnyIn_all hr hne fun i hi => h i hi g a w ha hs
theorem th_one {fuel i : Nat} {listed : Array Bool} (hr : Region.ready .any ops listed = [i]) (h : OH P n ops Q S fuel i listed ρ A) : TH P n ops Q S (fuel + 1) listed ρ A := th_all hr (by simp) (by simpa using h)
theorem th_two {fuel i j : Nat} {listed : Array Bool} (hr : Region.ready .any ops listed = [i, j]) (h : OH P n ops Q S fuel i listed ρ A) (h' : OH P n ops Q S fuel j listed ρ A) : TH P n ops Q S (fuel + 1) listed ρ A :=
  th_all hr (by simp) (by simpa using ⟨h, h'⟩)
section
variable {fuel i : Nat} {listed listed' : Array Bool}
theorem oh_v {v : Value} (hi : ops[i]? = some o) (hl : listed.setIfInBounds i true = listed') (hw : wantE n ops ρ o = true) (h : OpV P n ρ A o v) (k : TH P n ops Q S fuel listed' (put n ρ o.dst v) A) : OH P n ops Q S fuel i listed ρ A := fun g a w ha hs => by
  subst hl
  unfold wpOpIn
  simp only [hi, want_eq ha, hw, if_true]
  refine ⟨fun _ _ => trivial, ?_⟩
  rw [ha.eval, sem_eq (h g w hs) (by simp)]
  exact k g _ w (ha.put _ _) hs
theorem oh_x {R : Value → SP → Prop} (hi : ops[i]? = some o) (hl : listed.setIfInBounds i true = listed') (hw : wantE n ops ρ o = true) (h : OpX P n ρ A o R) (k : ∀ v B, R v B → Dr B S ∧ TH P n ops Q S fuel listed' (put n ρ o.dst v) B) : OH P n ops Q S fuel i listed ρ A := fun g a w ha hs => by
  subst hl
  unfold wpOpIn
  simp only [hi, want_eq ha, hw, if_true]
  refine ⟨fun _ _ => trivial, ?_⟩
  obtain ⟨v, w', B, hr, hb, hR⟩ := h g w hs
  rw [ha.eval, sem_eq hr (by simp)]
  exact (k v B hR).2 g _ w' (ha.put _ _) hb
theorem oh_u {B : SP} (hi : ops[i]? = some o) (hl : listed.setIfInBounds i true = listed') (hw : wantE n ops ρ o = true) (h : OpU P n ρ A o B) (hd : Dr B S) (k : TH P n ops Q S fuel listed' (put n ρ o.dst undef) B) : OH P n ops Q S fuel i listed ρ A := fun g a w ha hs => by
  subst hl
  unfold wpOpIn
  simp only [hi, want_eq ha, hw, if_true]
  refine ⟨fun _ _ => trivial, ?_⟩
  obtain ⟨w', hr, hb⟩ := h g w hs
  rw [ha.eval, sem_eq hr (by simp)]
  exact k g _ w' (ha.put _ _) hb
end
theorem th_env {fuel : Nat} {listed : Array Bool} {d : Nat} {v : Value} (h : ρ d = v) (k : TH P n ops Q S fuel listed (upd ρ d v) A) : TH P n ops Q S fuel listed ρ A := by
  rw [← env_set h] at k; exact k
end
end Rg
end Go.Vl

set_option linter.unusedVariables false
set_option linter.unusedSimpArgs false
namespace Go.Vl
open Go Go.Proofs
theorem rs_off {A : SP} {b k : Nat} {xs : List Value} (h : Rs A (some ⟨b, 0, none⟩) xs) : Rs A (some ⟨b, k, none⟩) (xs.drop k) := fun g w hs i v hv => by
  rw [List.getElem?_drop] at hv
  obtain ⟨b', o, e, hc⟩ := h g w hs (k + i) v hv
  simp only [Option.some.injEq, Addr.mk.injEq, and_true] at e
  obtain ⟨rfl, rfl⟩ := e
  exact ⟨b, k, rfl, by simpa using hc⟩
attribute [local irreducible] Sl pt ro SlB
namespace Rg
theorem Unpack_c {A : SP} {s : ByteArray} :
    Fn Try.prog 30 #[.string s] (A) (fun r B => ∃ a2 c2, r = .tuple #[.slice a2 (unpS s).1.length c2, .int .i64 (unpS s).2] ∧ (unpS s).1.length ≤ c2 ∧ B = A * Sl 3 (.slice a2 (unpS s).1.length c2) (unpS s).1.length (mcs (unpS s).1)) := by
  refine fn_enterW (args := [.string s]) Try.func30 rfl Try.ntmps30 (by simp) ?_
  have hxl := sbys_len s
  refine tc_seq ?_; refine tc_reg ?_; refine tl_x rfl (o_alloc z22 rfl) ?_; rintro _ _ ⟨b2, rfl, rfl⟩; refine tl_x rfl (o_alloc z26 rfl) ?_; rintro _ _ ⟨b3, rfl, rfl⟩; refine tl_nil ?_; refine q_then_n ?_; refine tc_seq ?_; refine tc_seq ?_; refine tc_reg ?_; refine tlm ?_; refine tl_v rfl (o_lenS Try.underlying9 rfl) ?_; refine tl_v rfl (o_remN (b := 16) rfl rfl (by decide)) ?_; refine tl_v rfl (o_nei rfl rfl) ?_; refine tlm ?_; refine tl_bool (d := 16) rfl (fun h => ?_) (fun h => ?_)
  · have g13 : s.size % 16 ≠ 0 := by first | omega | (simp at h; omega)
    refine tl_skip rfl ?_; refine tl_skip rfl ?_; refine tl_skip rfl ?_; refine tl_v rfl (o_pick_t rfl (by conv => lhs; whnf)) ?_; refine tl_nil ?_; refine q_then_n ?_; refine tc_cond_t rfl ?_; refine tc_seq ?_; refine tc_reg ?_; refine tl_u rfl (o_stU rfl (by repeat (first | with_reducible exact upd_here | with_reducible exact upd_pt | apply upd_left)) sz22 rfl rfl (by first | decide | simp | omega) rfl) ?_; refine tl_u rfl (o_stU rfl (by repeat (first | with_reducible exact upd_here | with_reducible exact upd_pt | apply upd_left)) sz26 rfl rfl (by first | decide | simp | omega) rfl) ?_; refine tl_nil ?_; refine q_then_n ?_; refine tc_ret ?_; refine q_then_r ?_
    have e0 : unpS s = ([], 190) := by unfold unpS; rw [if_pos (by omega)]
    rw [e0]
    exact ⟨[], _, rfl, fun _ _ h => mk0 h, .tuple #[.slice none 0 0, .int .i64 190], A * Sl 3 (.slice none 0 0) 0 [], resA2 rfl (rv_cell1 p22 rfl (by repeat (first | with_reducible exact has_here | with_reducible exact has_pt | apply has_left)) rfl) (rv_cell1 p26 rfl (by repeat (first | with_reducible exact has_here | with_reducible exact has_pt | apply has_left)) rfl), fun _ _ h => sl_nil (Dr.sat (by repeat (first | with_reducible exact dr_refl | apply dr_keep | apply dr_drop)) _ _ h), none, 0, rfl, Nat.le_refl _, rfl⟩
  · have g13 : s.size % 16 = 0 := by first | omega | (simp at h; omega)
    refine tlm ?_; refine tl_v rfl (o_lenS Try.underlying9 rfl) ?_; refine tl_v rfl (o_gtr rfl rfl) ?_; refine tl_v rfl (o_pick_f rfl (by conv => lhs; whnf)) ?_; refine tl_nil ?_; refine q_then_n ?_; refine tc_cond rfl (fun h => ?_) (fun h => ?_)
    · have g17 : 512 < s.size := by first | omega | (simp at h; omega)
      refine tc_seq ?_; refine tc_reg ?_; refine tl_u rfl (o_stU rfl (by repeat (first | with_reducible exact upd_here | with_reducible exact upd_pt | apply upd_left)) sz22 rfl rfl (by first | decide | simp | omega) rfl) ?_; refine tl_u rfl (o_stU rfl (by repeat (first | with_reducible exact upd_here | with_reducible exact upd_pt | apply upd_left)) sz26 rfl rfl (by first | decide | simp | omega) rfl) ?_; refine tl_nil ?_; refine q_then_n ?_; refine tc_ret ?_; refine q_then_r ?_
      have e0 : unpS s = ([], 190) := by unfold unpS; rw [if_pos (by omega)]
      rw [e0]
      exact ⟨[], _, rfl, fun _ _ h => mk0 h, .tuple #[.slice none 0 0, .int .i64 190], A * Sl 3 (.slice none 0 0) 0 [], resA2 rfl (rv_cell1 p22 rfl (by repeat (first | with_reducible exact has_here | with_reducible exact has_pt | apply has_left)) rfl) (rv_cell1 p26 rfl (by repeat (first | with_reducible exact has_here | with_reducible exact has_pt | apply has_left)) rfl), fun _ _ h => sl_nil (Dr.sat (by repeat (first | with_reducible exact dr_refl | apply dr_keep | apply dr_drop)) _ _ h), none, 0, rfl, Nat.le_refl _, rfl⟩
    · have g17 : s.size ≤ 512 := by first | omega | (simp at h; omega)
      obtain ⟨M, hM⟩ : ∃ M, s.size / 16 = M := ⟨_, rfl⟩
      have hsz : s.size = 16 * M := by omega
      refine tc_skip ?_; refine q_then_n ?_; refine tc_seq ?_; refine tc_reg ?_; refine tl_x rfl (o_alloc z22 rfl) ?_; rintro _ _ ⟨b4, rfl, rfl⟩; refine tl_nil ?_; refine q_then_n ?_; refine tc_seq ?_; refine tc_seq ?_; refine tc_reg ?_; refine tlm ?_; refine tl_x rfl (o_s2b Try.underlying9 Try.underlying62 Try.underlying5 rfl) ?_; rintro _ _ ⟨b22, c22, o22, rfl, hc22, hr22, rfl⟩; refine tl_env (d := 22) (v := .slice (some ⟨b22, 0, none⟩) (16 * M) c22) (by rw [← hsz]; rfl) ?_; refine tl_c rfl (o_call bd51 rfl (chunk_c (b := b22) (c := c22) (N := M))) ?_; rintro _ _ ⟨q1, q2, rfl, rfl⟩; refine tl_nil ?_; refine q_then_n ?_; refine tc_block ?_; refine tc_rangeI (K := (pt q1 (cl [.slice (some ⟨b22, 0, none⟩) (16 * M) c22] 62) * pt q2 (cl [.int .i64 16] 3))) (N := M) (A0 := A * pt b22 o22 * pt b2 (cl [.slice none 0 0] 22) * pt b3 (cl [.int .i64 0] 26) * pt b4 (cl [.slice none 0 0] 22) * Sl 3 (.slice none 0 0) 0 (mcs (unL (sbys s) 0))) (fun i S => ∃ (a4 : Option Addr) (c4 : Nat), (i ≤ c4) ∧ (∀ j, j < i → farA ((sbys s).drop (16 * j)) = false) ∧ S = A * pt b22 o22 * pt b2 (cl [.slice none 0 0] 22) * pt b3 (cl [.int .i64 0] 26) * pt b4 (cl [.slice a4 i c4] 22) * Sl 3 (.slice a4 i c4) i (mcs (unL (sbys s) i))) (fun j S => ∃ (k : Nat) (a4 : Option Addr) (c4 : Nat), j = .ret ∧ (unpS s = ([], 190)) ∧ S = A * pt b22 o22 * pt b2 (cl [.slice none 0 0] 22) * pt b3 (cl [.int .i64 190] 26) * pt b4 (cl [.slice a4 k c4] 22) * Sl 3 (.slice a4 k c4) k (mcs (unL (sbys s) k))) rfl bd68 (chunk_it (b := b22) (c := c22) (N := M) (by omega) (by omega)) (fun _ => rfl) rfl (fun _ _ h => (sl_nil (k := 3) h).perm (by ac_rfl)) (⟨none, 0, by omega, by intro j hj; omega, rfl⟩) ?_ ?_ ?_
      · intro l F i S hi hI
        obtain ⟨a4, c4, hi0, hi1, rfl⟩ := hI
        refine tc_eq (by simp only [← star_assoc]; rfl) ?_
        obtain ⟨X, hX⟩ : ∃ X, (sbys s).drop (16 * i) = X := ⟨_, rfl⟩
        have hX16 : (X.take 16).length = 16 := by rw [← hX, List.length_take, List.length_drop]; omega
        have hXb : ∀ x ∈ X.take 16, x < 256 := fun x hx => by obtain ⟨b, _, rfl⟩ := List.mem_map.1 (List.mem_of_mem_drop (List.mem_of_mem_take (hX.symm ▸ hx))); exact b.toNat_lt
        have e48 : ((X.take 16).drop 4).take 8 = (X.drop 4).take 8 := by rw [List.drop_take, List.take_take]; rfl
        have e04 : ((X.take 16).drop 0).take 4 = X.take 4 := by rw [List.drop_zero, List.take_take]; rfl
        have h12 : 12 < X.length := by rw [List.length_take] at hX16; omega
        have hb12 : (bys (X.take 16))[12]? = some (.int .u8 (X.getD 12 0 : Nat)) := by unfold bys; rw [List.getElem?_map, List.getElem?_take, if_pos (by decide), List.getD_eq_getElem?_getD, List.getElem?_eq_getElem h12]; rfl
        refine tc_env (d := 24) (v := .slice (some ⟨b22, 16 * i, none⟩) 16 16) rfl ?_; refine tc_reg ?_; refine tla ?_; refine tl_nil ?_; refine ⟨A * pt b22 o22 * pt b2 (cl [.slice none 0 0] 22) * pt b3 (cl [.int .i64 0] 26) * pt b4 (cl [.slice a4 i c4] 22) * Sl 3 (.slice a4 i c4) i (mcs (unL (sbys s) i)), fun g w h => by simp only [← star_assoc]; exact Dr.sat (by repeat (first | with_reducible exact dr_refl | apply dr_keep | apply dr_drop)) g w h, fun F => ?_⟩; refine tc_eq (by simp only [← star_assoc]; rfl) ?_; refine tc_block ?_; refine tc_seq ?_; refine tc_reg ?_; refine tlm ?_; refine tl_c rfl (o_call bd52 rfl (Take32_c (p := 0) (xs := X.take 16) (hr := (by have h9 := fun R => (rs_off (k := 16 * i) (hr22 R)).sub 16; simp only [bys, ← List.map_drop, ← List.map_take, hX] at h9; repeat (first | exact h9 _ | apply Rs.left))))) ?_; rintro _ _ ⟨rfl, rfl⟩; refine tlm ?_; refine tl_v rfl (o_extract rfl rfl) ?_; refine tl_env (d := 28) (v := .int .u32 (nm (X.take 4) : Nat)) (by show Value.int .u32 _ = _; rw [e04]) ?_; refine tl_v rfl (o_extract rfl rfl) ?_; refine tla ?_; refine tla ?_; refine tl_nil ?_; refine q_then_n ?_; refine tc_seq ?_; refine tc_reg ?_; refine tlm ?_; refine tl_c rfl (o_call bd53 rfl (Take64_c (p := 4) (xs := X.take 16) (hr := (by have h9 := fun R => (rs_off (k := 16 * i) (hr22 R)).sub 16; simp only [bys, ← List.map_drop, ← List.map_take, hX] at h9; repeat (first | exact h9 _ | apply Rs.left))))) ?_
        rintro _ _ ⟨rfl, rfl⟩; refine tlm ?_; refine tl_v rfl (o_extract rfl rfl) ?_; refine tl_env (d := 33) (v := .int .u64 (nm ((X.drop 4).take 8) : Nat)) (by show Value.int .u64 _ = _; rw [e48]) ?_; refine tl_v rfl (o_extract rfl rfl) ?_; refine tla ?_; refine tla ?_; refine tl_nil ?_; refine q_then_n ?_; refine tc_seq ?_; refine tc_seq ?_; refine tc_reg ?_; refine tlm ?_; refine tl_v rfl (o_gtr rfl rfl) ?_; refine tl_nil ?_; refine q_then_n ?_; refine tc_cond rfl (fun h => ?_) (fun h => ?_)
        · have hfar : farA ((sbys s).drop (16 * i)) = true := by rw [hX]; unfold farA; exact decide_eq_true (by first | omega | (simp at h; omega) | (rw [e48] at h; first | omega | (simp at h; omega)))
          refine tc_seq ?_; refine tc_reg ?_; refine tl_u rfl (o_stU rfl (by repeat (first | with_reducible exact upd_here | with_reducible exact upd_pt | apply upd_left)) sz22 rfl rfl (by first | decide | simp | omega) rfl) ?_; refine tl_u rfl (o_stU rfl (by repeat (first | with_reducible exact upd_here | with_reducible exact upd_pt | apply upd_left)) sz26 rfl rfl (by first | decide | simp | omega) rfl) ?_; refine tl_nil ?_; refine q_then_n ?_; refine tc_ret ?_; refine q_then_r (q_block_r ?_); exact ⟨A * pt b22 o22 * pt b2 (cl [.slice none 0 0] 22) * pt b3 (cl [.int .i64 190] 26) * pt b4 (cl [.slice (a4) (i) (c4)] 22) * Sl 3 (.slice (a4) (i) (c4)) (i) (mcs (unL (sbys s) (i))), fun g w h => by simp only [← star_assoc]; exact Dr.sat (by repeat (first | with_reducible exact dr_refl | apply dr_keep | apply dr_drop)) g w h, i, a4, c4, rfl, by unfold unpS; rw [if_neg (by omega), hM, if_pos (List.any_eq_true.2 ⟨i, List.mem_range.2 hi, hfar⟩)], rfl⟩
        · have hf8 : nm ((X.drop 4).take 8) ≤ 9223372036854775807 := by first | omega | (simp at h; omega) | (rw [e48] at h; first | omega | (simp at h; omega))
          have hfar : farA ((sbys s).drop (16 * i)) = false := by rw [hX]; unfold farA; exact decide_eq_false (by omega)
          refine tc_skip ?_; refine q_then_n ?_; refine tc_regh (S := F) mo (by repeat (first | with_reducible exact dr_refl | apply dr_keep | apply dr_drop)) ?_
          show TH _ _ _ _ _ 11 #[ff,ff,ff,ff,ff,ff,ff,ff,ff,ff,ff] _ _
          refine th_take (i := 1) (listed' := #[ff,tt,ff,ff,ff,ff,ff,ff,ff,ff,ff]) rfl (by kernel_rfl) (by kernel_rfl) (by kernel_rfl) rfl rfl (o_move (by conv => lhs; whnf)) ?_; refine th_take (i := 2) (listed' := #[ff,tt,tt,ff,ff,ff,ff,ff,ff,ff,ff]) rfl (by kernel_rfl) (by kernel_rfl) (by kernel_rfl) rfl rfl (o_move (by conv => lhs; whnf)) ?_; refine th_take (i := 3) (listed' := #[ff,tt,tt,tt,ff,ff,ff,ff,ff,ff,ff]) rfl (by kernel_rfl) (by kernel_rfl) (by kernel_rfl) rfl rfl (o_conv Try.underlying66 Try.underlying3 rfl) ?_; refine th_env (d := 40) (v := .int .i64 (nm ((X.drop 4).take 8) : Nat)) (by show Value.int .i64 (IntKind.i64.wrap _) = _; rw [wrap_i64 (by omega)]) ?_; refine th_take (i := 4) (listed' := #[ff,tt,tt,tt,tt,ff,ff,ff,ff,ff,ff]) rfl (by kernel_rfl) (by kernel_rfl) (by kernel_rfl) rfl rfl (o_move (by conv => lhs; whnf)) ?_; refine th_take (i := 5) (listed' := #[ff,tt,tt,tt,tt,tt,ff,ff,ff,ff,ff]) rfl (by kernel_rfl) (by kernel_rfl) (by kernel_rfl) rfl rfl (o_ixP1 Try.underlying62 sz5 rfl rfl (by first | omega | (simp only [bys_length, ints_length, wds_length, bos_length, List.length_append, List.length_take, List.length_drop, List.length_singleton]; omega)) (by repeat (first | exact nn_some | with_reducible exact nn_sl (by decide) | exact nn_rs (by assumption) (fun _ => by first | omega | (simp only [bys_length, ints_length, wds_length, bos_length, List.length_append, List.length_take, List.length_drop, List.length_singleton]; omega)) | apply Nn.left))) ?_
          refine th_two (i := 0) (j := 6) (by kernel_rfl) ?_ ?_
          · skip
            refine oh_v (i := 0) (listed' := #[tt,tt,tt,tt,tt,tt,ff,ff,ff,ff,ff]) rfl rfl rfl (by first | exact o_load p22 rfl (by repeat (first | with_reducible exact has_here | with_reducible exact has_pt | apply has_left)) rfl | exact o_loadC p22 rfl (by assumption)) ?_; refine th_one (i := 6) (by kernel_rfl) ?_; refine oh_v (i := 6) (listed' := #[tt,tt,tt,tt,tt,tt,tt,ff,ff,ff,ff]) rfl rfl rfl (o_ldP (xs := bys (X.take 16)) p5 rfl (by have h9 := fun R => (rs_off (k := 16 * i) (hr22 R)).sub 16; simp only [bys, ← List.map_drop, ← List.map_take, hX] at h9; repeat (first | exact h9 _ | apply Rs.left)) hb12) ?_; refine th_take (i := 7) (listed' := #[tt,tt,tt,tt,tt,tt,tt,tt,ff,ff,ff]) rfl (by kernel_rfl) (by kernel_rfl) (by kernel_rfl) rfl rfl (o_bS (l := [_, _, _]) (pv_cons (by conv => lhs; whnf) (pv_cons (by conv => lhs; whnf) (pv_cons (by conv => lhs; whnf) pv_nil))) Try.underlying35 z35 (pl35 Try.underlying35) rfl) ?_; refine th_one (i := 8) (by kernel_rfl) ?_; refine oh_x (i := 8) (listed' := #[tt,tt,tt,tt,tt,tt,tt,tt,tt,ff,ff]) rfl rfl rfl (o_buildSliceK (k := 3) (l := (mkA X).cells) Try.underlying22 sz35 z35 rfl rfl (by decide)) ?_; rintro _ _ ⟨b45, rfl, rfl⟩; refine ⟨by repeat (first | with_reducible exact dr_refl | apply dr_keep | apply dr_drop), ?_⟩; refine th_one (i := 9) (by kernel_rfl) ?_; refine oh_x (i := 9) (listed' := #[tt,tt,tt,tt,tt,tt,tt,tt,tt,tt,ff]) rfl rfl rfl (o_apB Try.underlying22 Try.underlying22 sz35 by35 z35 rfl (by decide) (by decide) rfl rfl rfl (by repeat (first | with_reducible exact ct_here | apply ct_left)) rfl rfl (by omega) (show _ = mcs (unL (sbys s) i ++ [mkA X]) by rw [mcs_append]; rfl)) ?_
            rintro _ _ ⟨a46, c46, rfl, hc46, rfl⟩; refine ⟨by repeat (first | with_reducible exact dr_refl | apply dr_keep | apply dr_drop), ?_⟩; refine th_one (i := 10) (by kernel_rfl) ?_; refine oh_u (i := 10) (listed' := #[tt,tt,tt,tt,tt,tt,tt,tt,tt,tt,tt]) rfl rfl rfl (o_stU rfl (by repeat (first | with_reducible exact upd_here | with_reducible exact upd_pt | apply upd_left)) sz22 rfl rfl (by first | decide | simp | omega) rfl) (by repeat (first | with_reducible exact dr_refl | apply dr_keep | apply dr_drop)) ?_; refine th_done (by kernel_rfl) ?_; refine q_block_n ?_; exact ⟨A * pt b22 o22 * pt b2 (cl [.slice none 0 0] 22) * pt b3 (cl [.int .i64 0] 26) * pt b4 (cl [.slice a46 (i + 1) c46] 22) * Sl 3 (.slice a46 (i + 1) c46) (i + 1) (mcs (unL (sbys s) i ++ [mkA X])), fun g w h => by simp only [← star_assoc]; exact Dr.sat (by repeat (first | with_reducible exact dr_refl | apply dr_keep | apply dr_drop)) g w h, a46, c46, hc46, by intro j hj; rcases Nat.lt_succ_iff_lt_or_eq.1 hj with h1 | rfl; exact hi1 j h1; exact hfar, by rw [unL_succ, hX]⟩
          · skip
            refine oh_v (i := 6) (listed' := #[ff,tt,tt,tt,tt,tt,tt,ff,ff,ff,ff]) rfl rfl rfl (o_ldP (xs := bys (X.take 16)) p5 rfl (by have h9 := fun R => (rs_off (k := 16 * i) (hr22 R)).sub 16; simp only [bys, ← List.map_drop, ← List.map_take, hX] at h9; repeat (first | exact h9 _ | apply Rs.left)) hb12) ?_; refine th_take (i := 7) (listed' := #[ff,tt,tt,tt,tt,tt,tt,tt,ff,ff,ff]) rfl (by kernel_rfl) (by kernel_rfl) (by kernel_rfl) rfl rfl (o_bS (l := [_, _, _]) (pv_cons (by conv => lhs; whnf) (pv_cons (by conv => lhs; whnf) (pv_cons (by conv => lhs; whnf) pv_nil))) Try.underlying35 z35 (pl35 Try.underlying35) rfl) ?_; refine th_two (i := 0) (j := 8) (by kernel_rfl) ?_ ?_
            · skip
              refine oh_v (i := 0) (listed' := #[tt,tt,tt,tt,tt,tt,tt,tt,ff,ff,ff]) rfl rfl rfl (by first | exact o_load p22 rfl (by repeat (first | with_reducible exact has_here | with_reducible exact has_pt | apply has_left)) rfl | exact o_loadC p22 rfl (by assumption)) ?_; refine th_one (i := 8) (by kernel_rfl) ?_; refine oh_x (i := 8) (listed' := #[tt,tt,tt,tt,tt,tt,tt,tt,tt,ff,ff]) rfl rfl rfl (o_buildSliceK (k := 3) (l := (mkA X).cells) Try.underlying22 sz35 z35 rfl rfl (by decide)) ?_; rintro _ _ ⟨b45, rfl, rfl⟩; refine ⟨by repeat (first | with_reducible exact dr_refl | apply dr_keep | apply dr_drop), ?_⟩; refine th_one (i := 9) (by kernel_rfl) ?_; refine oh_x (i := 9) (listed' := #[tt,tt,tt,tt,tt,tt,tt,tt,tt,tt,ff]) rfl rfl rfl (o_apB Try.underlying22 Try.underlying22 sz35 by35 z35 rfl (by decide) (by decide) rfl rfl rfl (by repeat (first | with_reducible exact ct_here | apply ct_left)) rfl rfl (by omega) (show _ = mcs (unL (sbys s) i ++ [mkA X]) by rw [mcs_append]; rfl)) ?_; rintro _ _ ⟨a46, c46, rfl, hc46, rfl⟩; refine ⟨by repeat (first | with_reducible exact dr_refl | apply dr_keep | apply dr_drop), ?_⟩; refine th_one (i := 10) (by kernel_rfl) ?_; refine oh_u (i := 10) (listed' := #[tt,tt,tt,tt,tt,tt,tt,tt,tt,tt,tt]) rfl rfl rfl (o_stU rfl (by repeat (first | with_reducible exact upd_here | with_reducible exact upd_pt | apply upd_left)) sz22 rfl rfl (by first | decide | simp | omega) rfl) (by repeat (first | with_reducible exact dr_refl | apply dr_keep | apply dr_drop)) ?_
              refine th_done (by kernel_rfl) ?_; refine q_block_n ?_; exact ⟨A * pt b22 o22 * pt b2 (cl [.slice none 0 0] 22) * pt b3 (cl [.int .i64 0] 26) * pt b4 (cl [.slice a46 (i + 1) c46] 22) * Sl 3 (.slice a46 (i + 1) c46) (i + 1) (mcs (unL (sbys s) i ++ [mkA X])), fun g w h => by simp only [← star_assoc]; exact Dr.sat (by repeat (first | with_reducible exact dr_refl | apply dr_keep | apply dr_drop)) g w h, a46, c46, hc46, by intro j hj; rcases Nat.lt_succ_iff_lt_or_eq.1 hj with h1 | rfl; exact hi1 j h1; exact hfar, by rw [unL_succ, hX]⟩
            · skip
              refine oh_x (i := 8) (listed' := #[ff,tt,tt,tt,tt,tt,tt,tt,tt,ff,ff]) rfl rfl rfl (o_buildSliceK (k := 3) (l := (mkA X).cells) Try.underlying22 sz35 z35 rfl rfl (by decide)) ?_; rintro _ _ ⟨b45, rfl, rfl⟩; refine ⟨by repeat (first | with_reducible exact dr_refl | apply dr_keep | apply dr_drop), ?_⟩; refine th_one (i := 0) (by kernel_rfl) ?_; refine oh_v (i := 0) (listed' := #[tt,tt,tt,tt,tt,tt,tt,tt,tt,ff,ff]) rfl rfl rfl (by first | exact o_load p22 rfl (by repeat (first | with_reducible exact has_here | with_reducible exact has_pt | apply has_left)) rfl | exact o_loadC p22 rfl (by assumption)) ?_; refine th_one (i := 9) (by kernel_rfl) ?_; refine oh_x (i := 9) (listed' := #[tt,tt,tt,tt,tt,tt,tt,tt,tt,tt,ff]) rfl rfl rfl (o_apB Try.underlying22 Try.underlying22 sz35 by35 z35 rfl (by decide) (by decide) rfl rfl rfl (by repeat (first | with_reducible exact ct_here | apply ct_left)) rfl rfl (by omega) (show _ = mcs (unL (sbys s) i ++ [mkA X]) by rw [mcs_append]; rfl)) ?_; rintro _ _ ⟨a46, c46, rfl, hc46, rfl⟩; refine ⟨by repeat (first | with_reducible exact dr_refl | apply dr_keep | apply dr_drop), ?_⟩; refine th_one (i := 10) (by kernel_rfl) ?_; refine oh_u (i := 10) (listed' := #[tt,tt,tt,tt,tt,tt,tt,tt,tt,tt,tt]) rfl rfl rfl (o_stU rfl (by repeat (first | with_reducible exact upd_here | with_reducible exact upd_pt | apply upd_left)) sz22 rfl rfl (by first | decide | simp | omega) rfl) (by repeat (first | with_reducible exact dr_refl | apply dr_keep | apply dr_drop)) ?_
              refine th_done (by kernel_rfl) ?_; refine q_block_n ?_; exact ⟨A * pt b22 o22 * pt b2 (cl [.slice none 0 0] 22) * pt b3 (cl [.int .i64 0] 26) * pt b4 (cl [.slice a46 (i + 1) c46] 22) * Sl 3 (.slice a46 (i + 1) c46) (i + 1) (mcs (unL (sbys s) i ++ [mkA X])), fun g w h => by simp only [← star_assoc]; exact Dr.sat (by repeat (first | with_reducible exact dr_refl | apply dr_keep | apply dr_drop)) g w h, a46, c46, hc46, by intro j hj; rcases Nat.lt_succ_iff_lt_or_eq.1 hj with h1 | rfl; exact hi1 j h1; exact hfar, by rw [unL_succ, hX]⟩
      · intro r S hI
        obtain ⟨a4, c4, hi0, hi1, rfl⟩ := hI
        refine q_block_n (q_then_n ?_); refine tc_seq ?_; refine tc_seq ?_
        have hW := unL_w hi1
        have hlk := unL_len (sbys s) M
        have hany : (List.range M).any (fun k => farA ((sbys s).drop (16 * k))) = false := by rw [List.any_eq_false]; intro j hj; rw [hi1 j (List.mem_range.1 hj)]; decide
        refine tc_reg ?_; refine tl_v rfl (by first | exact o_load p22 rfl (by repeat (first | with_reducible exact has_here | with_reducible exact has_pt | apply has_left)) rfl | exact o_loadC p22 rfl (by assumption)) ?_; refine tl_c rfl (o_call bd27 rfl (Pack_c (l := unL (sbys s) M) (hm := hlk) (hs := by omega))) ?_; rintro _ _ ⟨rfl, rfl⟩; refine tlm ?_; refine tl_v rfl (o_extract rfl rfl) ?_; refine tl_v rfl (o_extract rfl rfl) ?_; refine tla ?_; refine tla ?_; refine tl_nil ?_; refine q_then_n ?_; refine tc_seq ?_; refine tc_reg ?_; refine tlm ?_; refine tl_v rfl (o_nei rfl rfl) ?_; refine tlm ?_; refine tl_bool (d := 54) rfl (fun h => ?_) (fun h => ?_)
        · have hne2 : ¬ ((packS (unL (sbys s) M)).2 = 0 ∧ (packS (unL (sbys s) M)).1.toList = s.toList) := fun hc => by first | (simp [hc.1] at h; done) | (simp at h; omega)
          refine tl_skip rfl ?_; refine tl_skip rfl ?_; refine tl_skip rfl ?_; refine tl_v rfl (o_pick_t rfl (by conv => lhs; whnf)) ?_; refine tl_nil ?_; refine q_then_n ?_; refine tc_cond_t rfl ?_; refine tc_seq ?_; refine tc_reg ?_; refine tl_u rfl (o_stU rfl (by repeat (first | with_reducible exact upd_here | with_reducible exact upd_pt | apply upd_left)) sz22 rfl rfl (by first | decide | simp | omega) rfl) ?_; refine tl_u rfl (o_stU rfl (by repeat (first | with_reducible exact upd_here | with_reducible exact upd_pt | apply upd_left)) sz26 rfl rfl (by first | decide | simp | omega) rfl) ?_; refine tl_nil ?_; refine q_then_n ?_; refine tc_ret ?_; refine q_then_r ?_
          have e0 : unpS s = ([], 190) := by unfold unpS; rw [if_neg (by omega), hM, if_neg (by rw [hany]; decide), if_neg hne2]
          rw [e0]
          exact ⟨[r], _, rfl, fun _ _ h => mk1 h, .tuple #[.slice none 0 0, .int .i64 190], A * Sl 3 (.slice none 0 0) 0 [], resA2 rfl (rv_cell1 p22 rfl (by repeat (first | with_reducible exact has_here | with_reducible exact has_pt | apply has_left)) rfl) (rv_cell1 p26 rfl (by repeat (first | with_reducible exact has_here | with_reducible exact has_pt | apply has_left)) rfl), fun _ _ h => sl_nil (Dr.sat (by repeat (first | with_reducible exact dr_refl | apply dr_keep | apply dr_drop)) _ _ h), none, 0, rfl, Nat.le_refl _, rfl⟩
        · have he2 : (packS (unL (sbys s) M)).2 = 0 := by first | omega | (simp at h; omega)
          refine tlm ?_; refine tlm ?_; refine tl_v rfl (o_nestr rfl rfl) ?_; refine tl_v rfl (o_pick_f rfl (by conv => lhs; whnf)) ?_; refine tl_nil ?_; refine q_then_n ?_; refine tc_cond rfl (fun h => ?_) (fun h => ?_)
          · have hne2 : ¬ ((packS (unL (sbys s) M)).2 = 0 ∧ (packS (unL (sbys s) M)).1.toList = s.toList) := by first | assumption | exact fun hc => by (first | exact absurd hc.2 (of_decide_eq_true h) | (simp [hc.2] at h; done))
            refine tc_seq ?_; refine tc_reg ?_; refine tl_u rfl (o_stU rfl (by repeat (first | with_reducible exact upd_here | with_reducible exact upd_pt | apply upd_left)) sz22 rfl rfl (by first | decide | simp | omega) rfl) ?_; refine tl_u rfl (o_stU rfl (by repeat (first | with_reducible exact upd_here | with_reducible exact upd_pt | apply upd_left)) sz26 rfl rfl (by first | decide | simp | omega) rfl) ?_; refine tl_nil ?_; refine q_then_n ?_; refine tc_ret ?_; refine q_then_r ?_
            have e0 : unpS s = ([], 190) := by unfold unpS; rw [if_neg (by omega), hM, if_neg (by rw [hany]; decide), if_neg hne2]
            rw [e0]
            exact ⟨[r], _, rfl, fun _ _ h => mk1 h, .tuple #[.slice none 0 0, .int .i64 190], A * Sl 3 (.slice none 0 0) 0 [], resA2 rfl (rv_cell1 p22 rfl (by repeat (first | with_reducible exact has_here | with_reducible exact has_pt | apply has_left)) rfl) (rv_cell1 p26 rfl (by repeat (first | with_reducible exact has_here | with_reducible exact has_pt | apply has_left)) rfl), fun _ _ h => sl_nil (Dr.sat (by repeat (first | with_reducible exact dr_refl | apply dr_keep | apply dr_drop)) _ _ h), none, 0, rfl, Nat.le_refl _, rfl⟩
          · have he3 : (packS (unL (sbys s) M)).1.toList = s.toList := by simpa using h
            refine tc_skip ?_; refine q_then_n ?_; refine tc_seq ?_; refine tc_reg ?_; refine tl_v rfl (by first | exact o_load p22 rfl (by repeat (first | with_reducible exact has_here | with_reducible exact has_pt | apply has_left)) rfl | exact o_loadC p22 rfl (by assumption)) ?_; refine tl_u rfl (o_stU rfl (by repeat (first | with_reducible exact upd_here | with_reducible exact upd_pt | apply upd_left)) sz22 rfl rfl (by first | decide | simp | omega) rfl) ?_; refine tl_u rfl (o_stU rfl (by repeat (first | with_reducible exact upd_here | with_reducible exact upd_pt | apply upd_left)) sz26 rfl rfl (by first | decide | simp | omega) rfl) ?_; refine tl_nil ?_; refine q_then_n ?_; refine tc_ret ?_
            have hun : unpS s = (unL (sbys s) M, 0) := by unfold unpS; rw [if_neg (by omega), hM, if_neg (by rw [hany]; decide), if_pos ⟨he2, he3⟩]
            rw [hun]
            exact ⟨[r], _, rfl, fun _ _ h => mk1 h, .tuple #[.slice a4 M c4, .int .i64 0], A * Sl 3 (.slice a4 M c4) M (mcs (unL (sbys s) M)), resA2 rfl (rv_cell1 p22 rfl (by repeat (first | with_reducible exact has_here | with_reducible exact has_pt | apply has_left)) rfl) (rv_cell1 p26 rfl (by repeat (first | with_reducible exact has_here | with_reducible exact has_pt | apply has_left)) rfl), Dr.sat (by repeat (first | with_reducible exact dr_refl | apply dr_keep | apply dr_drop)), a4, c4, by rw [hlk], by rw [hlk]; omega, by rw [hlk]⟩
      · intro r j S hX
        obtain ⟨k, a4, c4, rfl, hx0, rfl⟩ := hX
        refine jmp_r ?_; refine q_block_r (q_then_r ?_)
        rw [hx0]
        exact ⟨[r], _, rfl, fun _ _ h => mk1 h, .tuple #[.slice none 0 0, .int .i64 190], A * Sl 3 (.slice none 0 0) 0 [], resA2 rfl (rv_cell1 p22 rfl (by repeat (first | with_reducible exact has_here | with_reducible exact has_pt | apply has_left)) rfl) (rv_cell1 p26 rfl (by repeat (first | with_reducible exact has_here | with_reducible exact has_pt | apply has_left)) rfl), fun _ _ h => sl_nil (Dr.sat (by repeat (first | with_reducible exact dr_refl | apply dr_keep | apply dr_drop)) _ _ h), none, 0, rfl, Nat.le_refl _, rfl⟩
end Rg
end Go.Vl

set_option linter.unusedVariables false
set_option linter.unusedSimpArgs false
namespace Go.Vl
open Go Go.Proofs
theorem Unpackw {A : SP} {s : ByteArray} {X : List Mk} {er : Int} (hX : unpS s = (X, er)) : Fn Try.prog 30 #[.string s] A (fun r B => ∃ a2 c2, r = .tuple #[.slice a2 X.length c2, .int .i64 er] ∧ X.length ≤ c2 ∧ B = A * Sl 3 (.slice a2 X.length c2) X.length (mcs X)) := by
  have h := Rg.Unpack_c (A := A) (s := s)
  rw [hX] at h
  exact h
attribute [local irreducible] Sl pt ro SlB
end Go.Vl

set_option linter.unusedVariables false
set_option linter.unusedSimpArgs false
namespace Go.Vl
open Go Go.Proofs
def idC (v : Nat) (l : List Mk) : Nat := l.countP fun x => decide (x.id = v)
theorem eqv_id (a x : Mk) : eqv (ltc cId) a x = decide (x.id = a.id) := by
  unfold eqv; rw [cId_neg, cId_neg, Bool.eq_iff_iff]; simp; omega
theorem flt_id (v : Nat) (l : List Mk) : l.filter (eqv (ltc cId) ⟨v, 0, 0⟩) = l.filter fun x => decide (x.id = v) := by
  congr 1; funext x; exact eqv_id _ x
theorem idC_srt (v : Nat) (l : List Mk) : idC v (srt (ltc cId) l) = idC v l := by
  have h := (srt_ss cId_swo l).eq ⟨v, 0, 0⟩
  rw [flt_id, flt_id] at h
  unfold idC
  rw [List.countP_eq_length_filter, List.countP_eq_length_filter, h]
theorem idC_count (v : Nat) (l : List Mk) : (l.map Mk.id).count v = idC v l := by
  unfold idC; rw [List.count, List.countP_map]; congr 1
theorem nod_iff {l : List Mk} : (l.map Mk.id).Nodup ↔ ∀ v, idC v l ≤ 1 := by
  rw [List.nodup_iff_count]
  exact ⟨fun h v => by rw [← idC_count]; exact h v, fun h v => by rw [idC_count]; exact h v⟩
theorem nod_srt {l : List Mk} (h : (l.map Mk.id).Nodup) : ((srt (ltc cId) l).map Mk.id).Nodup := nod_iff.2 fun v => by rw [idC_srt]; exact nod_iff.1 h v
theorem idC_mem {l : List Mk} {v : Nat} (h : ∀ x ∈ l, x.id ≠ v) : idC v l = 0 := by
  unfold idC; rw [List.countP_eq_zero]; intro x hx; simpa using h x hx
theorem idC_out (v w : Nat) (l : List Mk) : idC v (outM w l) ≤ idC v l := by
  unfold outM idC; exact (List.filter_sublist).countP_le
theorem out_len (v : Nat) (l : List Mk) : (outM v l).length + idC v l = l.length := by
  unfold outM idC
  rw [← List.countP_eq_length_filter, Nat.add_comm, List.length_eq_countP_add_countP (p := fun x : Mk => decide (x.id = v))]
  congr 1
  congr 1; funext x; simp
theorem out_mem {v : Nat} {l : List Mk} {x : Mk} : x ∈ outM v l ↔ x ∈ l ∧ x.id ≠ v := by
  unfold outM; rw [List.mem_filter]; simp
theorem idC_out0 (v : Nat) (l : List Mk) : idC v (outM v l) = 0 := idC_mem fun _ hx => (out_mem.1 hx).2
theorem idC_snoc (v : Nat) (l : List Mk) (m : Mk) : idC v (l ++ [m]) = idC v l + if m.id = v then 1 else 0 := by
  unfold idC; rw [List.countP_append, List.countP_singleton]; simp
theorem sd_inc {l : List Mk} (h : Sd (ltc cId) l) (hn : (l.map Mk.id).Nodup) {i j : Nat} (hj : j < l.length) (hij : i < j) : (l[i]).id < l[j].id := by
  have h1 := List.pairwise_iff_getElem.1 h i j (by omega) hj hij
  rw [cId_neg] at h1
  have h2 := List.pairwise_iff_getElem.1 hn i j (by rw [List.length_map]; omega) (by rw [List.length_map]; omega) hij
  rw [List.getElem_map, List.getElem_map] at h2
  have := of_decide_eq_false h1
  omega
/-- Marks in order. -/
structure Asc (A : List Mk) : Prop where
  len : A.length ≤ 32
  ok : ∀ x ∈ A, okM x = true
  nod : (A.map Mk.id).Nodup
  sd : Sd (ltc cId) A
  w : ∀ x ∈ A, MkW x
theorem Asc.may {A : List Mk} (h : Asc A) : mayS A = 0 := may_ok h.len (List.all_eq_true.2 h.ok) h.nod
theorem Asc.srt {A : List Mk} (h : Asc A) : srt (ltc cId) A = A := (srt_of cId_swo ⟨h.sd, fun _ => rfl⟩).symm
theorem rev_short {α : Type} : ∀ {l : List α}, l.length ≤ 1 → l.reverse = l
  | [], _ => rfl
  | [_], _ => rfl
  | _ :: _ :: _, h => absurd h (by simp)
theorem Asc.srt_rev {A : List Mk} (h : Asc A) : Vl.srt (ltc cId) A.reverse = A := by
  refine (srt_of cId_swo ⟨h.sd, fun a => ?_⟩).symm
  rw [List.filter_reverse]
  refine (rev_short ?_).symm
  have := nod_iff.1 h.nod a.id
  unfold idC at this
  rw [List.countP_eq_length_filter] at this
  rw [show eqv (ltc cId) a = fun x => decide (x.id = a.id) from funext (eqv_id a)]
  exact this
theorem Asc.may_rev {A : List Mk} (h : Asc A) : mayS A.reverse = 0 := by
  refine may_ok (by rw [List.length_reverse]; exact h.len) (List.all_eq_true.2 fun x hx => h.ok x (List.mem_reverse.1 hx)) ?_
  rw [List.map_reverse]
  exact List.nodup_iff_pairwise_ne.2 (List.pairwise_reverse.2 ((List.nodup_iff_pairwise_ne.1 h.nod).imp fun h => Ne.symm h))
theorem Asc.w_rev {A : List Mk} (h : Asc A) : ∀ x ∈ A.reverse, MkW x := fun x hx => h.w x (List.mem_reverse.1 hx)
theorem Asc.pack {A : List Mk} (h : Asc A) : packS A = (sob (pkS A), 0) := by
  unfold packS; rw [h.may, if_neg (by decide), h.srt]
theorem Asc.pack_rev {A : List Mk} (h : Asc A) : packS A.reverse = (sob (pkS A), 0) := by
  unfold packS; rw [h.may_rev, if_neg (by decide), h.srt_rev]
theorem sbys_sob {xs : List Nat} (h : ∀ x ∈ xs, x < 256) : sbys (sob xs) = xs := by
  unfold sbys sob
  rw [List.toList_toArray, List.map_map]
  conv => rhs; rw [← List.map_id xs]
  refine List.map_congr_left fun x hx => ?_
  show (UInt8.ofNat x).toNat = x
  rw [UInt8.toNat_ofNat']
  exact Nat.mod_eq_of_lt (h x hx)
theorem sob_size (xs : List Nat) : (sob xs).size = xs.length := by unfold sob; show (List.toArray _).size = _; simp
theorem pkS_drop : ∀ (A : List Mk) (i : Nat) (h : i < A.length), (pkS A).drop (16 * i) = pkM A[i] ++ pkS (A.drop (i + 1))
  | m :: l, 0, _ => rfl
  | m :: l, i + 1, h => by
    show (pkM m ++ pkS l).drop (16 * (i + 1)) = _
    rw [List.drop_append, show (pkM m).drop (16 * (i + 1)) = [] from List.drop_eq_nil_of_le (by rw [pkM_len]; omega), pkM_len, show 16 * (i + 1) - 16 = 16 * i by omega, List.nil_append]
    exact pkS_drop l i (by simpa using h)
theorem mkA_pk {m : Mk} (hw : MkW m) (hk : okM m = true) (Z : List Nat) : mkA (pkM m ++ Z) = m ∧ farA (pkM m ++ Z) = false := by
  have ha : 0 ≤ m.at_ := by unfold okM at hk; simp only [Bool.and_eq_true, decide_eq_true_eq] at hk; exact hk.1
  have h1 := hw.at_
  have h2 := hw.id
  have e4 : (pkM m ++ Z).take 4 = le 4 m.id := by unfold pkM; rw [List.append_assoc, List.take_left' (le_length 4 _)]
  have e8 : ((pkM m ++ Z).drop 4).take 8 = le 8 m.at_.toNat := by
    unfold pkM; rw [List.append_assoc, List.drop_left' (le_length 4 _), List.append_assoc, List.take_left' (le_length 8 _)]
  have e12 : (pkM m ++ Z).getD 12 0 = m.gr := by
    rw [List.getD_eq_getElem?_getD]
    unfold pkM
    rw [List.append_assoc, List.getElem?_append_right (by rw [le_length]; omega), le_length, List.append_assoc, List.getElem?_append_right (by rw [le_length]; omega), le_length]
    rfl
  have n4 : nm (le 4 m.id) = m.id := by rw [nm_le]; exact Nat.mod_eq_of_lt (by omega)
  have n8 : nm (le 8 m.at_.toNat) = m.at_.toNat := by rw [nm_le]; exact Nat.mod_eq_of_lt (by omega)
  constructor
  · unfold mkA; rw [e4, e8, e12, n4, n8, Int.toNat_of_nonneg ha]
  · unfold farA; rw [e8, n8]; exact decide_eq_false (by omega)
theorem Asc.unp {A : List Mk} (h : Asc A) : unpS (sob (pkS A)) = (A, 0) := by
  have hb : sbys (sob (pkS A)) = pkS A := sbys_sob (pkS_bytes fun m hm => (h.w m hm).gr)
  have hs : (sob (pkS A)).size = 16 * A.length := by rw [sob_size, pkS_len]
  have hl := h.len
  have hN : (sob (pkS A)).size / 16 = A.length := by rw [hs]; omega
  have hu : unL (pkS A) A.length = A := by
    refine List.ext_getElem (unL_len _ _) fun i h1 h2 => ?_
    have h3 : (unL (pkS A) A.length)[i] = mkA ((pkS A).drop (16 * i)) := by
      show ((List.range A.length).map fun k => mkA ((pkS A).drop (16 * k)))[i]'(by simpa using h2) = _
      rw [List.getElem_map, List.getElem_range]
    rw [h3, pkS_drop A i h2]
    exact (mkA_pk (h.w _ (List.getElem_mem h2)) (h.ok _ (List.getElem_mem h2)) _).1
  unfold unpS
  rw [if_neg (by rw [hs]; omega), hN, hb, if_neg ?_, hu, if_pos ?_]
  · rw [h.pack]; exact ⟨rfl, rfl⟩
  · rw [Bool.not_eq_true, List.any_eq_false]
    intro k hk
    have hk := List.mem_range.1 hk
    rw [pkS_drop A k hk, (mkA_pk (h.w _ (List.getElem_mem hk)) (h.ok _ (List.getElem_mem hk)) _).2]
    decide
theorem Asc.out {A : List Mk} (h : Asc A) {v : Nat} (hv : idC v A = 1) : ∃ C, unsetS A.reverse v = (C, 0) ∧ C.length + 1 = A.length ∧ (∀ x ∈ C, MkW x) ∧ ∃ D, unsetS C v = (D, 190) := by
  have hr : idC v A.reverse = 1 := by unfold idC at hv ⊢; rw [List.countP_reverse]; exact hv
  have ho := out_len v A.reverse
  rw [List.length_reverse] at ho
  refine ⟨Vl.srt (ltc cId) (outM v A.reverse), ?_, ?_, fun x hx => h.w_rev x (out_mem.1 ((srt_mem cId_swo).1 hx)).1, [], ?_⟩
  · unfold unsetS; rw [h.may_rev, if_neg (by decide), if_neg (by rw [List.length_reverse]; omega)]
  · rw [srt_length cId_swo]; omega
  · have hm : mayS (Vl.srt (ltc cId) (outM v A.reverse)) = 0 := by
      have hl := h.len
      refine may_ok (by rw [srt_length cId_swo]; omega) (List.all_eq_true.2 fun x hx => h.ok x (List.mem_reverse.1 (out_mem.1 ((srt_mem cId_swo).1 hx)).1)) (nod_srt (nod_iff.2 fun w => Nat.le_trans (idC_out w v _) ?_)); exact nod_iff.1 (by have := h.may_rev; exact (may_zero this).2.2) w
    have h0 : idC v (Vl.srt (ltc cId) (outM v A.reverse)) = 0 := by rw [idC_srt]; exact idC_out0 v _
    have h1 := out_len v (Vl.srt (ltc cId) (outM v A.reverse))
    unfold unsetS; rw [hm, if_neg (by decide), if_pos (by omega)]
def kpM (m : Mk) : Mk := ⟨m.id, smS m.at_, m.gr % 2⟩
theorem kp_ok (m : Mk) : okM (kpM m) = true := by unfold okM kpM; simp; omega
theorem kp_w {m : Mk} (hm : m.id < 4294967296) : MkW (kpM m) := by
  have := smS_lt m.at_
  exact ⟨hm, ⟨by show _ ≤ ((smS m.at_ : Nat) : Int); omega, by show ((smS m.at_ : Nat) : Int) ≤ _; omega⟩, by show m.gr % 2 < 256; omega⟩
theorem few_idC {b : Int} {L : List Mk} (h : Few b L) (v : Nat) : idC v L = if v < L.length then 1 else 0 := by
  have hn := nod_iff.1 (may_zero h.may).2.2 v
  split
  · rename_i hv
    have : 0 < idC v L := by unfold idC; rw [List.countP_pos_iff]; exact ⟨L[v], List.getElem_mem hv, by simp [(h.at_ v hv).1]⟩
    omega
  · rename_i hv
    exact idC_mem fun x hx => by obtain ⟨i, hi, rfl⟩ := List.mem_iff_getElem.1 hx; rw [(h.at_ i hi).1]; omega
theorem set_full {b : Int} {L : List Mk} (h : Few b L) {m : Mk} (hk : okM m = true) (h1 : ¬ m.id < L.length) (h2 : L.length = 32) : setS L m = ([], 191) := by
  have h3 := out_len m.id L
  rw [few_idC h, if_neg h1] at h3
  unfold setS; rw [h.may, if_neg (by decide), hk, if_neg (by decide), if_pos (by show (outM m.id L).length = 32; omega)]
theorem set_few {b : Int} {L : List Mk} (h : Few b L) (hb : b ≤ 1000000000000000000) {m : Mk} (hk : okM m = true) (hw : MkW m) (h1 : m.id < L.length ∨ L.length ≠ 32) : ∃ A, setS L m = (A, 0) ∧ Asc A ∧ (∀ x ∈ A, x.id = m.id → x = m) ∧ (∀ x ∈ A, x.id ≠ m.id → ∃ hx : x.id < L.length, L[x.id] = x) ∧ idC m.id A = 1 ∧ A.length = L.length + (if m.id < L.length then 0 else 1) := by
  have h3 := out_len m.id L
  have hl := h.len
  rw [few_idC h] at h3
  have h4 : (outM m.id L).length + 1 = L.length + (if m.id < L.length then 0 else 1) := by
    revert h3; split <;> intro h3 <;> omega
  have h5 : (outM m.id L).length ≠ 32 := by
    revert h3; split <;> intro h3 <;> omega
  have hmem : ∀ x, x ∈ srt (ltc cId) (outM m.id L ++ [m]) ↔ (x ∈ L ∧ x.id ≠ m.id) ∨ x = m := fun x => by
    rw [srt_mem cId_swo, List.mem_append, out_mem, List.mem_singleton]
  have hin : ∀ x ∈ L, okM x = true := List.all_eq_true.1 (may_zero h.may).2.1
  refine ⟨srt (ltc cId) (outM m.id L ++ [m]), ?_, ⟨?_, fun x hx => ?_, nod_srt (nod_iff.2 fun v => ?_), (srt_ss cId_swo _).sd, fun x hx => ?_⟩, fun x hx he => ?_, fun x hx he => ?_, ?_, ?_⟩
  · unfold setS; rw [h.may, if_neg (by decide), hk, if_neg (by decide), if_neg (by exact h5)]
  · rw [srt_length cId_swo, List.length_append, List.length_singleton]; revert h3; split <;> intro h3 <;> omega
  · rcases (hmem x).1 hx with ⟨h6, _⟩ | rfl
    · exact hin x h6
    · exact hk
  · rw [idC_snoc]
    have h7 := idC_out v m.id L
    rw [few_idC h] at h7
    split
    · rename_i h8
      have h8 : m.id = v := h8
      rw [← h8, idC_out0]; exact Nat.le_refl _
    · revert h7; split <;> intro h7 <;> omega
  · rcases (hmem x).1 hx with ⟨h6, _⟩ | rfl
    · exact h.mkw hb x h6
    · exact hw
  · rcases (hmem x).1 hx with ⟨_, h6⟩ | rfl
    · exact absurd he h6
    · rfl
  · rcases (hmem x).1 hx with ⟨h6, _⟩ | rfl
    · obtain ⟨i, hi, rfl⟩ := List.mem_iff_getElem.1 h6
      have hid := (h.at_ i hi).1
      exact ⟨by omega, by simp only [hid]⟩
    · exact absurd rfl he
  · rw [idC_srt, idC_snoc, idC_out0, if_pos (rfl)]
  · rw [srt_length cId_swo, List.length_append, List.length_singleton]; exact h4
end Go.Vl

set_option linter.unusedVariables false
set_option linter.unusedSimpArgs false
namespace Go.Vl
open Go Go.Proofs
theorem cnt_succ {A : List Mk} {i v : Nat} (h : i < A.length) : idC v (A.take (i + 1)) = idC v (A.take i) + if A[i].id = v then 1 else 0 := by
  rw [List.take_succ_eq_append_getElem h, idC_snoc]
theorem rev_succ {A : List Mk} {i : Nat} (h : i < A.length) : A.reverse.take (i + 1) = A.reverse.take i ++ [A[A.length - 1 - i]] := by
  rw [List.take_succ_eq_append_getElem (by rw [List.length_reverse]; exact h), List.getElem_reverse]
theorem Packw {A : SP} {a : Option Addr} {c n : Nat} {l : List Mk} {s : ByteArray} {er : Int} (hX : packS l = (s, er)) (hr : Rs A a (mcs l)) (hm : l.length = n) (hW : ∀ x ∈ l, MkW x) (hs : n ≤ 5864062014800 := by omega) : Fn Try.prog 27 #[.slice a n c] A (fun r B => r = .tuple #[.string s, .int .i64 er] ∧ A = B) := by
  have h := Pack_c (A := A) (a := a) (c := c) (l := l) hr hm hW hs
  rw [hX] at h
  exact h
attribute [local irreducible] Sl pt ro SlB
set_option maxRecDepth 20000 in
set_option maxHeartbeats 4000000 in
theorem MarksKeep_f (F : SP) {a : Option Addr} {c n : Nat} {l : List Mk} {m : Mk} (hr : Rs F a (mcs l)) (hm : l.length = n) (hW : ∀ x ∈ l, MkW x) (hE : MkW m) (hn : n ≤ 1125899906842624) :
    Fn Try.prog 9 #[.slice a n c, .agg m.cells.toArray] (F) (fun r B => r = .bool true ∧ B = F) := by
  refine fn_enterW (args := [.slice a n c, .agg m.cells.toArray]) Try.func9 rfl Try.ntmps9 (by simp) ?_
  obtain ⟨K, hK⟩ : ∃ K, kpM m = K := ⟨_, rfl⟩
  have hKo : okM K = true := hK ▸ kp_ok m
  have hKw : MkW K := hK ▸ kp_w hE.id
  have hKi := hKw.id
  have hma := hE.at_
  refine sr ?_; refine tl_x rfl (o_box rfl rfl) ?_; rintro _ _ ⟨b3, rfl, rfl⟩; refine tla ?_; refine nq ?_; refine sr ?_; refine tlm ?_; refine tl_c rfl (o_call bd16 rfl (few_c (l := l))) ?_; rintro _ _ ⟨L, a20, c20, rfl, hL, rfl⟩
  have hLl := hL.len
  refine tla ?_; refine nq ?_; refine sr ?_; refine tv (o_fieldAddr (o := 2) Try.underlying35 rfl rfl sz5 rfl) ?_; refine tv (by first | exact o_load p5 rfl (by repeat (first | with_reducible exact has_here | with_reducible exact has_pt | apply has_left)) rfl | exact o_loadC p5 rfl (by assumption)) ?_; refine tv (o_remN rfl rfl (by decide)) ?_; refine tv (o_fieldAddr (o := 2) Try.underlying35 rfl rfl sz5 rfl) ?_; refine tl_u rfl (o_stU rfl (by repeat (first | with_reducible exact upd_here | with_reducible exact upd_pt | apply upd_left)) sz5 rfl rfl (by show 2 < 3; decide) rfl) ?_; refine nq ?_; refine sr ?_; refine tv (o_fieldAddr (o := 1) Try.underlying35 rfl rfl sz3 rfl) ?_; refine tv (by first | exact o_load p3 rfl (by repeat (first | with_reducible exact has_here | with_reducible exact has_pt | apply has_left)) rfl | exact o_loadC p3 rfl (by assumption)) ?_; refine tl_c rfl (o_call bd19 rfl (small_c (n := m.at_))) ?_; rintro _ _ ⟨rfl, rfl⟩; refine tv (o_fieldAddr (o := 1) Try.underlying35 rfl rfl sz3 rfl) ?_; refine tl_u rfl (o_stU rfl (by repeat (first | with_reducible exact upd_here | with_reducible exact upd_pt | apply upd_left)) sz3 rfl rfl (by show 1 < 3; decide) rfl) ?_; refine nq ?_; refine tc_seq ?_; refine tc_pre (A' := F * pt b3 (cl K.cells 35) * Sl 3 (.slice a20 L.length c20) L.length (mcs L)) (fun g w h => by subst hK; exact (Dr.sat (by repeat (first | with_reducible exact dr_refl | apply dr_keep | apply dr_drop)) g w h)) ?_
  refine tc_reg ?_; refine tv (o_fieldAddr (o := 0) Try.underlying35 rfl rfl sz33 rfl) ?_; refine tv (by first | exact o_load p33 rfl (by repeat (first | with_reducible exact has_here | with_reducible exact has_pt | apply has_left)) rfl | exact o_loadC p33 rfl (by assumption)) ?_; refine tv (o_conv Try.underlying33 Try.underlying2 rfl) ?_; refine tl_env (d := 31) (v := .int .i64 (K.id : Nat)) (by show Value.int .i64 (IntKind.i64.wrap _) = _; rw [wrap_i64 (by omega)]) ?_; refine tlm ?_; refine tv (o_len Try.underlying22 rfl) ?_
  obtain ⟨th, hth⟩ : ∃ th, decide ((K.id : Int) < (L.length : Int)) = th := ⟨_, rfl⟩
  refine tv (o_lss rfl rfl) ?_; refine tl_env (d := 34) (v := .bool th) (by show Value.bool (decide _) = _; rw [hth]) ?_; refine tla ?_; refine nq ?_; refine tc_seq ?_
  obtain ⟨A, er, hS⟩ : ∃ A er, setS L K = (A, er) := ⟨_, _, rfl⟩
  have hAl : A.length ≤ 33 := by have := set_le hS; omega
  refine tc_reg ?_; refine tlm ?_; refine tv (o_loadN (vs := K.cells) a35 sz35 rfl (by repeat (first | with_reducible exact has_here | with_reducible exact has_pt | apply has_left)) (by show 3 ≤ (K.cells).length; exact Nat.le_refl 3) rfl) ?_; refine tl_c rfl (o_call bd21 rfl (Setw (l := L) (m := K) (n := L.length) hS (hr := (by repeat (first | with_reducible exact rs_sl | assumption | apply Rs.left))) (hs := by omega))) ?_; rintro _ _ ⟨a38, c38, rfl, hc38, rfl⟩; refine tlm ?_; refine tv (o_extract rfl rfl) ?_; refine tv (o_extract rfl rfl) ?_; refine tla ?_; refine tla ?_; refine nq ?_; refine tc_seq ?_; refine tc_seq ?_; refine tc_cut (fun ρ BB => ∃ (bb : Bool), (bb = decide (¬ K.id < L.length ∧ L.length = 32)) ∧ ρ 47 = .bool bb ∧ ρ 0 = .slice a20 L.length c20 ∧ ρ 3 = .pointer (some ⟨b3, 0, none⟩) ∧ ρ 5 = .bool th ∧ ρ 6 = .slice a38 A.length c38 ∧ ρ 7 = .int .i64 er ∧ BB = F * pt b3 (cl K.cells 35) * Sl 3 (.slice a20 L.length c20) L.length (mcs L) * Sl 3 (.slice a38 A.length c38) A.length (mcs A)) ?_ ?_
  · skip
    refine tc_reg ?_; refine tlm ?_; refine tv (o_not rfl) ?_; refine tlm ?_; refine tl_bool (d := 43) rfl (fun h => ?_) (fun h => ?_)
    · have gt : ¬ K.id < L.length := by intro h9; rw [decide_eq_true (by omega)] at hth; subst hth; simp at h
      refine tlm ?_; refine tv (o_len Try.underlying22 rfl) ?_; refine tv (o_eqi rfl rfl) ?_; refine tv (o_pick_t rfl (by conv => lhs; whnf)) ?_; refine tl_nil ?_; exact ⟨_, by first | exact (decide_eq_false (by omega)).symm | (rw [decide_eq_decide]; omega), rfl, rfl, rfl, rfl, rfl, rfl, rfl⟩
    · have gt : K.id < L.length := by first | (have h9 : th = true := by simpa using h); rw [h9] at hth; have := of_decide_eq_true hth; omega
      refine tk ?_; refine tk ?_; refine tk ?_; refine tv (o_pick_f rfl (by conv => lhs; whnf)) ?_; refine tl_nil ?_; exact ⟨_, by first | exact (decide_eq_false (by omega)).symm | (rw [decide_eq_decide]; omega), rfl, rfl, rfl, rfl, rfl, rfl, rfl⟩
  · intro ρ B hI
    obtain ⟨bb, hbb0, hE47, hE0, hE3, hE5, hE6, hE7, rfl⟩ := hI
    refine q_then_n ?_; refine tc_env (d := 47) hE47 ?_; refine tc_env (d := 0) hE0 ?_; refine tc_env (d := 3) hE3 ?_; refine tc_env (d := 5) hE5 ?_; refine tc_env (d := 6) hE6 ?_; refine tc_env (d := 7) hE7 ?_
    clear hE47 hE0 hE3 hE5 hE6 hE7
    refine tc_cond rfl (fun h => ?_) (fun h => ?_)
    · have hf := of_decide_eq_true (show decide (¬ K.id < L.length ∧ L.length = 32) = true by rw [← hbb0]; exact h)
      obtain ⟨rfl, rfl⟩ : A = [] ∧ er = 191 := by have h9 := set_full hL hKo hf.1 hf.2; rw [hS] at h9; simpa using h9
      refine sr ?_; refine tlm ?_; refine tv (o_eqi rfl rfl) ?_; refine tlm ?_; refine tl_bool (d := 50) rfl (fun h => ?_) (fun h => ?_)
      · try simp only [lv1, lv2, lv3, lv4, lv5, lv6, Bool.not_true, Bool.not_false] at h
        refine tlm ?_; refine tv (o_len Try.underlying22 rfl) ?_; refine tv (o_eqi rfl rfl) ?_; refine tv (o_pick_t rfl (by conv => lhs; whnf)) ?_; refine tlm ?_; refine tl_bool (d := 55) rfl (fun h => ?_) (fun h => ?_)
        · try simp only [lv1, lv2, lv3, lv4, lv5, lv6, Bool.not_true, Bool.not_false] at h
          refine tl_c rfl (o_call bd15 rfl (worksM_c)) ?_; rintro _ _ ⟨rfl, rfl⟩; refine tv (o_pick_t rfl (by conv => lhs; whnf)) ?_; refine tla ?_; refine nq ?_; refine tc_ret ?_; refine q_then_r ?_; exact ⟨.bool true, F, res1 rfl rfl, Dr.sat (by repeat (first | with_reducible exact dr_refl | apply dr_keep | apply dr_drop)), rfl, rfl⟩
        · exfalso; simp at h
      · exfalso; simp at h
    · have hf : K.id < L.length ∨ L.length ≠ 32 := by have h9 := of_decide_eq_false (show decide (¬ K.id < L.length ∧ L.length = 32) = false by rw [← hbb0]; exact h); omega
      obtain ⟨A9, h9, hA, hAk, hAo, hAc, hAn⟩ := set_few hL (by decide) hKo hKw hf
      rw [hS] at h9
      obtain ⟨rfl, rfl⟩ : A = A9 ∧ er = 0 := by simpa using h9
      have hAl2 := hA.len
      refine tc_skip ?_; refine q_then_n ?_; refine sr ?_; refine tla ?_; refine nq ?_; refine tc_seq ?_; refine sr ?_; refine tla ?_; refine nq ?_; refine tc_block ?_; refine tc_loop (fun kk ρ BB => ∃ (i : Nat) (k : Nat), (i ≤ A.length) ∧ (k = idC K.id (A.take i)) ∧ kk = A.length - i ∧ ρ 8 = .int .i64 (k : Nat) ∧ ρ 9 = .int .i64 (i : Nat) ∧ ρ 0 = .slice a20 L.length c20 ∧ ρ 3 = .pointer (some ⟨b3, 0, none⟩) ∧ ρ 5 = .bool th ∧ ρ 6 = .slice a38 A.length c38 ∧ ρ 7 = .int .i64 0 ∧ BB = F * pt b3 (cl K.cells 35) * Sl 3 (.slice a20 L.length c20) L.length (mcs L) * Sl 3 (.slice a38 A.length c38) A.length (mcs A)) (m := A.length - (0)) ?_ ?_
      · exact ⟨0, 0, by omega, rfl, rfl, rfl, rfl, rfl, rfl, rfl, rfl, rfl, rfl⟩
      · intro k ρ B hI
        obtain ⟨i, k, hp0, hp1, hkk1, hE8, hE9, hE0, hE3, hE5, hE6, hE7, rfl⟩ := hI
        refine tc_env (d := 8) hE8 ?_; refine tc_env (d := 9) hE9 ?_; refine tc_env (d := 0) hE0 ?_; refine tc_env (d := 3) hE3 ?_; refine tc_env (d := 5) hE5 ?_; refine tc_env (d := 6) hE6 ?_; refine tc_env (d := 7) hE7 ?_
        clear hE8 hE9 hE0 hE3 hE5 hE6 hE7
        refine tc_seq ?_; refine sr ?_; refine tlm ?_; refine tlm ?_; refine tv (o_len Try.underlying22 rfl) ?_; refine tv (o_lss rfl rfl) ?_; refine nq ?_; refine tc_cond rfl (fun h => ?_) (fun h => ?_)
        · have hi : i < A.length := by first | omega | (simp at h; omega)
          obtain ⟨x, hx⟩ : ∃ x, A[i] = x := ⟨_, rfl⟩
          have hcs := cnt_succ (v := K.id) hi
          rw [hx] at hcs
          have hk33 : k ≤ 32 := by rw [hp1]; exact Nat.le_trans List.countP_le_length (by rw [List.length_take]; omega)
          have hxm : x ∈ A := hx ▸ List.getElem_mem hi
          have hxi := (hA.w x hxm).id
          refine tc_skip ?_; refine q_then_n ?_; refine tc_seq ?_; refine tc_block ?_; refine tc_seq ?_; refine tc_seq ?_; refine tc_cut (fun ρ BB => ρ 79 = .bool false ∧ ρ 0 = .slice a20 L.length c20 ∧ ρ 3 = .pointer (some ⟨b3, 0, none⟩) ∧ ρ 5 = .bool th ∧ ρ 6 = .slice a38 A.length c38 ∧ ρ 7 = .int .i64 0 ∧ ρ 8 = .int .i64 (k : Nat) ∧ ρ 9 = .int .i64 (i : Nat) ∧ BB = F * pt b3 (cl K.cells 35) * Sl 3 (.slice a20 L.length c20) L.length (mcs L) * Sl 3 (.slice a38 A.length c38) A.length (mcs A)) ?_ ?_
          · skip
            refine tc_regq mo (by kernel_rfl) ?_; refine ql_v rfl (o_move (by conv => lhs; whnf)) ?_; refine ql_v rfl (o_gtr rfl rfl) ?_; refine ql_v rfl (o_move (by conv => lhs; whnf)) ?_; refine ql_bool (d := 66) rfl (fun h => ?_) (fun h => ?_)
            · have hi0 : 0 < i := by first | omega | (simp at h; omega)
              obtain ⟨y, hy⟩ : ∃ y, A[i - 1] = y := ⟨_, rfl⟩
              have hyx : y.id < x.id := by rw [← hx, ← hy]; exact sd_inc hA.sd hA.nod hi (by omega)
              refine ql_v rfl (o_move (by conv => lhs; whnf)) ?_; refine ql_v rfl (o_move (by conv => lhs; whnf)) ?_; refine ql_v rfl (o_ixP (a := a38) Try.underlying22 sz35 rfl rfl (by omega) (nn_rs (by repeat (first | with_reducible exact rs_sl | assumption | apply Rs.left)) (fun _ => by rw [mcs_len]; omega))) ?_; refine ql_v rfl (o_faP (a := a38) (m := 0) (o := 0) Try.underlying35 rfl rfl sz33 rfl (nn_rs (by repeat (first | with_reducible exact rs_sl | assumption | apply Rs.left)) (fun _ => by rw [mcs_len]; omega))) ?_; refine ql_v rfl (o_ldP (a := a38) p33 rfl (by repeat (first | with_reducible exact rs_sl | assumption | apply Rs.left)) (by rw [mcs_f0 (by omega)])) ?_; refine ql_env (d := 71) (v := .int .u32 (x.id : Nat)) (by rw [← hx]; rfl) ?_; refine ql_v rfl (o_move (by conv => lhs; whnf)) ?_; refine ql_v rfl (o_move (by conv => lhs; whnf)) ?_; refine ql_v rfl (o_subI rfl rfl (by omega)) ?_; refine ql_env (d := 74) (v := .int .i64 ((i - 1 : Nat) : Int)) (by show Value.int .i64 ((i : Int) - 1) = _; congr 1; omega) ?_; refine ql_v rfl (o_ixP (a := a38) Try.underlying22 sz35 rfl rfl (by omega) (nn_rs (by repeat (first | with_reducible exact rs_sl | assumption | apply Rs.left)) (fun _ => by rw [mcs_len]; omega))) ?_; refine ql_v rfl (o_faP (a := a38) (m := 0) (o := 0) Try.underlying35 rfl rfl sz33 rfl (nn_rs (by repeat (first | with_reducible exact rs_sl | assumption | apply Rs.left)) (fun _ => by rw [mcs_len]; omega))) ?_
              refine ql_v rfl (o_ldP (a := a38) p33 rfl (by repeat (first | with_reducible exact rs_sl | assumption | apply Rs.left)) (by rw [mcs_f0 (by omega)])) ?_; refine ql_env (d := 77) (v := .int .u32 (y.id : Nat)) (by rw [← hy]; rfl) ?_; refine ql_v rfl (o_leq rfl rfl) ?_; refine ql_env (d := 78) (v := .bool false) (by show Value.bool (decide _) = _; rw [decide_eq_false (by omega)]) ?_; refine ql_v rfl (o_pick_t rfl (by conv => lhs; whnf)) ?_; refine ql_nil ?_; exact ⟨rfl, rfl, rfl, rfl, rfl, rfl, rfl, rfl, rfl⟩
            · try simp only [lv1, lv2, lv3, lv4, lv5, lv6, Bool.not_true, Bool.not_false] at h
              refine ql_skip rfl ?_; refine ql_skip rfl ?_; refine ql_skip rfl ?_; refine ql_skip rfl ?_; refine ql_skip rfl ?_; refine ql_skip rfl ?_; refine ql_skip rfl ?_; refine ql_skip rfl ?_; refine ql_skip rfl ?_; refine ql_skip rfl ?_; refine ql_skip rfl ?_; refine ql_skip rfl ?_; refine ql_v rfl (o_pick_f rfl (by conv => lhs; whnf)) ?_; refine ql_nil ?_; exact ⟨rfl, rfl, rfl, rfl, rfl, rfl, rfl, rfl, rfl⟩
          · intro ρ B hI
            obtain ⟨hE79, hE0, hE3, hE5, hE6, hE7, hE8, hE9, rfl⟩ := hI
            refine q_then_n ?_; refine tc_env (d := 79) hE79 ?_; refine tc_env (d := 0) hE0 ?_; refine tc_env (d := 3) hE3 ?_; refine tc_env (d := 5) hE5 ?_; refine tc_env (d := 6) hE6 ?_; refine tc_env (d := 7) hE7 ?_; refine tc_env (d := 8) hE8 ?_; refine tc_env (d := 9) hE9 ?_
            clear hE79 hE0 hE3 hE5 hE6 hE7 hE8 hE9
            refine tc_cond rfl (fun h => ?_) (fun h => ?_)
            · exfalso; simp at h
            · try simp only [lv1, lv2, lv3, lv4, lv5, lv6, Bool.not_true, Bool.not_false] at h
              refine tc_skip ?_; refine q_then_n ?_; refine tc_seq ?_; refine tc_regq mo (by kernel_rfl) ?_; refine ql_v rfl (o_move (by conv => lhs; whnf)) ?_; refine ql_v rfl (o_move (by conv => lhs; whnf)) ?_; refine ql_v rfl (o_ixP (a := a38) Try.underlying22 sz35 rfl rfl (by omega) (nn_rs (by repeat (first | with_reducible exact rs_sl | assumption | apply Rs.left)) (fun _ => by rw [mcs_len]; omega))) ?_; refine ql_v rfl (o_faP (a := a38) (m := 0) (o := 0) Try.underlying35 rfl rfl sz33 rfl (nn_rs (by repeat (first | with_reducible exact rs_sl | assumption | apply Rs.left)) (fun _ => by rw [mcs_len]; omega))) ?_; refine ql_v rfl (o_ldP (a := a38) p33 rfl (by repeat (first | with_reducible exact rs_sl | assumption | apply Rs.left)) (by rw [mcs_f0 (by omega)])) ?_; refine ql_env (d := 84) (v := .int .u32 (x.id : Nat)) (by rw [← hx]; rfl) ?_; refine ql_v rfl (o_fieldAddr (o := 0) Try.underlying35 rfl rfl sz33 rfl) ?_; refine ql_v rfl (by first | exact o_load p33 rfl (by repeat (first | with_reducible exact has_here | with_reducible exact has_pt | apply has_left)) rfl | exact o_loadC p33 rfl (by assumption)) ?_; refine ql_v rfl (o_eqi rfl rfl) ?_; refine ql_nil ?_; refine q_then_n ?_; refine tc_cond rfl (fun h => ?_) (fun h => ?_)
              · have hid : x.id = K.id := by first | (have h9 := of_decide_eq_true h; omega) | (simp at h; omega)
                obtain rfl : x = K := hAk x hxm hid
                refine sr ?_; refine tlm ?_; refine tv (by first | exact o_addI rfl rfl (by omega) | exact o_add rfl rfl) ?_; refine tl_env (d := 89) (v := .int .i64 ((k + 1 : Nat) : Int)) (by first | rfl | (show Value.int .i64 (IntKind.i64.wrap ((k + 1 : Nat) : Int)) = _; rw [wrap_i64 (by omega)])) ?_; refine tla ?_; refine nq ?_; refine tc_seq ?_; refine tc_regq mo (by kernel_rfl) ?_; refine ql_v rfl (o_move (by conv => lhs; whnf)) ?_; refine ql_v rfl (o_move (by conv => lhs; whnf)) ?_; refine ql_v rfl (o_ixP (a := a38) Try.underlying22 sz35 rfl rfl (by omega) (nn_rs (by repeat (first | with_reducible exact rs_sl | assumption | apply Rs.left)) (fun _ => by rw [mcs_len]; omega))) ?_; refine ql_v rfl (o_ldPN (a := a38) (vs := x.cells) a35 sz35 rfl (by repeat (first | with_reducible exact rs_sl | assumption | apply Rs.left)) (by rw [mcs_at (by omega), hx]) rfl (by decide)) ?_; refine ql_v rfl (o_loadN (vs := x.cells) a35 sz35 rfl (by repeat (first | with_reducible exact has_here | with_reducible exact has_pt | apply has_left)) (by show 3 ≤ (Mk.cells _).length; exact Nat.le_refl 3) rfl) ?_; refine ql_v rfl (o_neMk (a := x) (b := x) rfl rfl) ?_; refine ql_nil ?_; refine q_then_n ?_; refine tc_cond rfl (fun h => ?_) (fun h => ?_)
                · exfalso; simp at h
                · try simp only [lv1, lv2, lv3, lv4, lv5, lv6, Bool.not_true, Bool.not_false] at h
                  refine tc_skip ?_; refine q_block_n (q_then_n ?_); refine tc_reg ?_; refine tlm ?_; refine tv (by first | exact o_addI rfl rfl (by omega) | exact o_add rfl rfl) ?_; refine tla ?_; refine nq ?_; exact ⟨_, by omega, i + 1, _, by omega, by rw [hcs]; first | rw [if_pos hid, ← hp1] | rw [if_neg hid, ← hp1]; rfl, rfl, rfl, rfl, rfl, rfl, rfl, rfl, rfl, rfl⟩
              · have hid : ¬ x.id = K.id := by first | (have h9 := of_decide_eq_false h; omega) | (simp at h; omega)
                obtain ⟨hxL, hxl⟩ := hAo x hxm hid
                refine tc_seq ?_; refine tc_regq mo (by kernel_rfl) ?_; refine ql_v rfl (o_move (by conv => lhs; whnf)) ?_; refine ql_v rfl (o_move (by conv => lhs; whnf)) ?_; refine ql_v rfl (o_ixP (a := a38) Try.underlying22 sz35 rfl rfl (by omega) (nn_rs (by repeat (first | with_reducible exact rs_sl | assumption | apply Rs.left)) (fun _ => by rw [mcs_len]; omega))) ?_; refine ql_v rfl (o_faP (a := a38) (m := 0) (o := 0) Try.underlying35 rfl rfl sz33 rfl (nn_rs (by repeat (first | with_reducible exact rs_sl | assumption | apply Rs.left)) (fun _ => by rw [mcs_len]; omega))) ?_; refine ql_v rfl (o_ldP (a := a38) p33 rfl (by repeat (first | with_reducible exact rs_sl | assumption | apply Rs.left)) (by rw [mcs_f0 (by omega)])) ?_; refine ql_env (d := 100) (v := .int .u32 (x.id : Nat)) (by rw [← hx]; rfl) ?_; refine ql_v rfl (o_conv Try.underlying33 Try.underlying2 rfl) ?_; refine ql_env (d := 101) (v := .int .i64 (x.id : Nat)) (by show Value.int .i64 (IntKind.i64.wrap _) = _; rw [wrap_i64 (by omega)]) ?_; refine ql_v rfl (o_move (by conv => lhs; whnf)) ?_; refine ql_v rfl (o_len Try.underlying22 rfl) ?_; refine ql_v rfl (o_geq rfl rfl) ?_; refine ql_v rfl (o_move (by conv => lhs; whnf)) ?_; refine ql_bool (d := 105) rfl (fun h => ?_) (fun h => ?_)
                · exfalso; first | (simp at h; done) | (simp at h; omega)
                · try simp only [lv1, lv2, lv3, lv4, lv5, lv6, Bool.not_true, Bool.not_false] at h
                  refine ql_v rfl (o_move (by conv => lhs; whnf)) ?_; refine ql_v rfl (o_move (by conv => lhs; whnf)) ?_; refine ql_v rfl (o_ixP (a := a38) Try.underlying22 sz35 rfl rfl (by omega) (nn_rs (by repeat (first | with_reducible exact rs_sl | assumption | apply Rs.left)) (fun _ => by rw [mcs_len]; omega))) ?_; refine ql_v rfl (o_ldPN (a := a38) (vs := x.cells) a35 sz35 rfl (by repeat (first | with_reducible exact rs_sl | assumption | apply Rs.left)) (by rw [mcs_at (by omega), hx]) rfl (by decide)) ?_; refine ql_v rfl (o_move (by conv => lhs; whnf)) ?_; refine ql_v rfl (o_move (by conv => lhs; whnf)) ?_; refine ql_v rfl (o_move (by conv => lhs; whnf)) ?_; refine ql_v rfl (o_ixP (a := a38) Try.underlying22 sz35 rfl rfl (by omega) (nn_rs (by repeat (first | with_reducible exact rs_sl | assumption | apply Rs.left)) (fun _ => by rw [mcs_len]; omega))) ?_; refine ql_v rfl (o_faP (a := a38) (m := 0) (o := 0) Try.underlying35 rfl rfl sz33 rfl (nn_rs (by repeat (first | with_reducible exact rs_sl | assumption | apply Rs.left)) (fun _ => by rw [mcs_len]; omega))) ?_; refine ql_v rfl (o_ldP (a := a38) p33 rfl (by repeat (first | with_reducible exact rs_sl | assumption | apply Rs.left)) (by rw [mcs_f0 (by omega)])) ?_; refine ql_env (d := 115) (v := .int .u32 (x.id : Nat)) (by rw [← hx]; rfl) ?_; refine ql_v rfl (o_ixP (a := a20) Try.underlying22 sz35 rfl rfl (by omega) (nn_rs (by repeat (first | with_reducible exact rs_sl | assumption | apply Rs.left)) (fun _ => by rw [mcs_len]; omega))) ?_
                  refine ql_v rfl (o_ldPN (a := a20) (vs := x.cells) a35 sz35 rfl (by repeat (first | with_reducible exact rs_sl | assumption | apply Rs.left)) (by rw [mcs_at (by omega), hxl]) rfl (by decide)) ?_; refine ql_v rfl (o_neMk (a := x) (b := x) rfl rfl) ?_; refine ql_v rfl (o_pick_f rfl (by conv => lhs; whnf)) ?_; refine ql_nil ?_; refine q_then_n ?_; refine tc_cond rfl (fun h => ?_) (fun h => ?_)
                  · exfalso; simp at h
                  · try simp only [lv1, lv2, lv3, lv4, lv5, lv6, Bool.not_true, Bool.not_false] at h
                    refine tc_skip ?_; refine q_block_n (q_then_n ?_); refine tc_reg ?_; refine tlm ?_; refine tv (by first | exact o_addI rfl rfl (by omega) | exact o_add rfl rfl) ?_; refine tla ?_; refine nq ?_; exact ⟨_, by omega, i + 1, _, by omega, by rw [hcs]; first | rw [if_pos hid, ← hp1] | rw [if_neg hid, ← hp1]; rfl, rfl, rfl, rfl, rfl, rfl, rfl, rfl, rfl, rfl⟩
        · obtain rfl : i = A.length := by first | omega | (simp at h; omega)
          obtain rfl : k = 1 := by rw [hp1, List.take_length, hAc]
          have hA1 : 1 ≤ A.length := by rcases Nat.eq_zero_or_pos A.length with h9 | h9; rw [List.length_eq_zero_iff.1 h9] at hAc; exact absurd (show (0 : Nat) = 1 from hAc) (by decide); exact h9
          obtain ⟨C, hC1, hC2, hC3, D, hC4⟩ := hA.out hAc
          refine tc_exit ?_; refine q_then_e (q_then_e (q_block_x (q_then_n ?_))); refine tc_seq ?_; refine tc_seq ?_; refine tc_cut (fun ρ BB => ρ 147 = .bool false ∧ ρ 3 = .pointer (some ⟨b3, 0, none⟩) ∧ ρ 6 = .slice a38 A.length c38 ∧ BB = F * pt b3 (cl K.cells 35) * Sl 3 (.slice a20 L.length c20) L.length (mcs L) * Sl 3 (.slice a38 A.length c38) A.length (mcs A)) ?_ ?_
          · skip
            refine tc_reg ?_; refine tlm ?_; refine tv (o_nei rfl rfl) ?_; refine tlm ?_; refine tl_bool (d := 122) rfl (fun h => ?_) (fun h => ?_)
            · exfalso; simp at h
            · try simp only [lv1, lv2, lv3, lv4, lv5, lv6, Bool.not_true, Bool.not_false] at h
              refine tlm ?_; refine tv (o_nei rfl rfl) ?_; refine tl_env (d := 124) (v := .bool false) (by first | rfl | (show Value.bool (decide _) = _; rw [decide_eq_false (by omega)])) ?_; refine tv (o_pick_f rfl (by conv => lhs; whnf)) ?_; refine tlm ?_; refine tl_bool (d := 126) rfl (fun h => ?_) (fun h => ?_)
              · exfalso; simp at h
              · try simp only [lv1, lv2, lv3, lv4, lv5, lv6, Bool.not_true, Bool.not_false] at h
                refine tlm ?_; refine tlm ?_; refine tl_bool (d := 128) rfl (fun h => ?_) (fun h => ?_)
                · have h9 : th = true := by first | exact h | simpa using h
                  have gt : K.id < L.length := by rw [h9] at hth; have := of_decide_eq_true hth; omega
                  have hA2 : A.length = L.length := by rw [hAn, if_pos gt]; rfl
                  refine tlm ?_; refine tv (o_len Try.underlying22 rfl) ?_; refine tlm ?_; refine tv (o_len Try.underlying22 rfl) ?_; refine tv (o_nei rfl rfl) ?_; refine tl_env (d := 133) (v := .bool false) (by first | rfl | (show Value.bool (decide _) = _; rw [decide_eq_false (by omega)])) ?_; refine tv (o_pick_t rfl (by conv => lhs; whnf)) ?_; refine tv (o_pick_f rfl (by conv => lhs; whnf)) ?_; refine tlm ?_; refine tl_bool (d := 136) rfl (fun h => ?_) (fun h => ?_)
                  · exfalso; simp at h
                  · try simp only [lv1, lv2, lv3, lv4, lv5, lv6, Bool.not_true, Bool.not_false] at h
                    refine tlm ?_; refine tv (o_not rfl) ?_; refine tlm ?_; refine tl_bool (d := 139) rfl (fun h => ?_) (fun h => ?_)
                    · have h9 : th = false := by first | exact h | simpa using h
                      have gt : ¬ K.id < L.length := by rw [h9] at hth; have := of_decide_eq_false hth; omega
                      have hA2 : A.length = L.length + 1 := by rw [hAn, if_neg gt]
                      refine tlm ?_; refine tv (o_len Try.underlying22 rfl) ?_; refine tlm ?_; refine tv (o_len Try.underlying22 rfl) ?_; refine tv (by first | exact o_addI rfl rfl (by omega) | exact o_add rfl rfl) ?_; refine tv (o_nei rfl rfl) ?_; refine tl_env (d := 145) (v := .bool false) (by first | rfl | (show Value.bool (decide _) = _; rw [decide_eq_false (by omega)])) ?_; refine tv (o_pick_t rfl (by conv => lhs; whnf)) ?_; refine tv (o_pick_f rfl (by conv => lhs; whnf)) ?_; refine tl_nil ?_; exact ⟨rfl, rfl, rfl, rfl⟩
                    · have h9 : th = true := by first | exact h | simpa using h
                      have gt : K.id < L.length := by rw [h9] at hth; have := of_decide_eq_true hth; omega
                      refine tk ?_; refine tk ?_; refine tk ?_; refine tk ?_; refine tk ?_; refine tk ?_; refine tv (o_pick_f rfl (by conv => lhs; whnf)) ?_; refine tv (o_pick_f rfl (by conv => lhs; whnf)) ?_; refine tl_nil ?_; exact ⟨rfl, rfl, rfl, rfl⟩
                · have h9 : th = false := by first | exact h | simpa using h
                  have gt : ¬ K.id < L.length := by rw [h9] at hth; have := of_decide_eq_false hth; omega
                  refine tk ?_; refine tk ?_; refine tk ?_; refine tk ?_; refine tk ?_; refine tv (o_pick_f rfl (by conv => lhs; whnf)) ?_; refine tv (o_pick_f rfl (by conv => lhs; whnf)) ?_; refine tlm ?_; refine tlm ?_; refine tv (o_not rfl) ?_; refine tlm ?_; refine tl_bool (d := 139) rfl (fun h => ?_) (fun h => ?_)
                  · have h9 : th = false := by first | exact h | simpa using h
                    have gt : ¬ K.id < L.length := by rw [h9] at hth; have := of_decide_eq_false hth; omega
                    have hA2 : A.length = L.length + 1 := by rw [hAn, if_neg gt]
                    refine tlm ?_; refine tv (o_len Try.underlying22 rfl) ?_; refine tlm ?_; refine tv (o_len Try.underlying22 rfl) ?_; refine tv (by first | exact o_addI rfl rfl (by omega) | exact o_add rfl rfl) ?_; refine tv (o_nei rfl rfl) ?_; refine tl_env (d := 145) (v := .bool false) (by first | rfl | (show Value.bool (decide _) = _; rw [decide_eq_false (by omega)])) ?_; refine tv (o_pick_t rfl (by conv => lhs; whnf)) ?_; refine tv (o_pick_f rfl (by conv => lhs; whnf)) ?_; refine tl_nil ?_; exact ⟨rfl, rfl, rfl, rfl⟩
                  · have h9 : th = true := by first | exact h | simpa using h
                    have gt : K.id < L.length := by rw [h9] at hth; have := of_decide_eq_true hth; omega
                    refine tk ?_; refine tk ?_; refine tk ?_; refine tk ?_; refine tk ?_; refine tk ?_; refine tv (o_pick_f rfl (by conv => lhs; whnf)) ?_; refine tv (o_pick_f rfl (by conv => lhs; whnf)) ?_; refine tl_nil ?_; exact ⟨rfl, rfl, rfl, rfl⟩
          · intro ρ B hI
            obtain ⟨hE147, hE3, hE6, rfl⟩ := hI
            refine q_then_n ?_; refine tc_env (d := 147) hE147 ?_; refine tc_env (d := 3) hE3 ?_; refine tc_env (d := 6) hE6 ?_
            clear hE147 hE3 hE6
            refine tc_cond rfl (fun h => ?_) (fun h => ?_)
            · exfalso; simp at h
            · try simp only [lv1, lv2, lv3, lv4, lv5, lv6, Bool.not_true, Bool.not_false] at h
              refine tc_skip ?_; refine q_then_n ?_; refine sr ?_; refine tla ?_; refine nq ?_; refine tc_seq ?_; refine sr ?_; refine tlm ?_; refine tv (o_len Try.underlying22 rfl) ?_; refine tv (o_subI rfl rfl (by omega)) ?_; refine tl_env (d := 150) (v := .int .i64 ((A.length : Nat) - 1 - ((0 : Nat) : Int))) (by first | rfl | (show Value.int .i64 ((A.length : Int) - 1) = _; congr 1; omega)) ?_; refine tla ?_; refine nq ?_; refine tc_block ?_; refine tc_pre (A' := F * pt b3 (cl K.cells 35) * Sl 3 (.slice a20 L.length c20) L.length (mcs L) * Sl 3 (.slice a38 A.length c38) A.length (mcs A) * Sl 3 (.slice none 0 0) 0 (mcs (A.reverse.take 0))) (fun _ _ h => sl_nil h) ?_; refine tc_loop (fun kk ρ BB => ∃ (i : Nat) (ab : Option Addr) (cb : Nat), (i ≤ A.length) ∧ kk = A.length - i ∧ ρ 10 = .slice ab i cb ∧ ρ 11 = .int .i64 ((A.length : Nat) - 1 - (i : Nat)) ∧ ρ 3 = .pointer (some ⟨b3, 0, none⟩) ∧ ρ 6 = .slice a38 A.length c38 ∧ Dr BB (F * pt b3 (cl K.cells 35) * Sl 3 (.slice a20 L.length c20) L.length (mcs L) * Sl 3 (.slice a38 A.length c38) A.length (mcs A) * Sl 3 (.slice ab i cb) i (mcs (A.reverse.take i)))) (m := A.length - (0)) ?_ ?_
              · exact ⟨0, none, 0, by omega, rfl, rfl, rfl, rfl, rfl, (by repeat (first | with_reducible exact dr_refl | apply dr_keep | apply dr_drop))⟩
              · intro k ρ B hI
                obtain ⟨i, ab, cb, hp0, hkk2, hE10, hE11, hE3, hE6, hBA⟩ := hI
                refine tc_pre hBA.sat ?_
                clear hBA
                refine tc_env (d := 10) hE10 ?_; refine tc_env (d := 11) hE11 ?_; refine tc_env (d := 3) hE3 ?_; refine tc_env (d := 6) hE6 ?_
                clear hE10 hE11 hE3 hE6
                refine tc_seq ?_; refine sr ?_; refine tlm ?_; refine tv (o_geq rfl rfl) ?_; refine nq ?_; refine tc_cond rfl (fun h => ?_) (fun h => ?_)
                · have hi : i < A.length := by first | omega | (simp at h; omega)
                  obtain ⟨x, hx⟩ : ∃ x, A[A.length - 1 - i] = x := ⟨_, rfl⟩
                  have hrs := rev_succ hi
                  rw [hx] at hrs
                  refine tc_skip ?_; refine q_then_n ?_; refine tc_seq ?_; refine tc_block ?_; refine tc_reg ?_; refine tlm ?_; refine tlm ?_; refine tlm ?_; refine tl_env (d := 157) (v := .int .i64 ((A.length - 1 - i : Nat) : Int)) (by show Value.int .i64 ((A.length : Int) - 1 - (i : Int)) = _; congr 1; omega) ?_; refine tv (o_ixP (a := a38) Try.underlying22 sz35 rfl rfl (by omega) (nn_rs (by repeat (first | with_reducible exact rs_sl | assumption | apply Rs.left)) (fun _ => by rw [mcs_len]; omega))) ?_; refine tv (o_ldPN (a := a38) (vs := x.cells) a35 sz35 rfl (by repeat (first | with_reducible exact rs_sl | assumption | apply Rs.left)) (by rw [mcs_at (by omega), hx]) rfl (by decide)) ?_; refine tl_x rfl (o_buildSliceK (k := 3) (l := (x).cells) Try.underlying22 sz35 z35 rfl rfl (by decide)) ?_; rintro _ _ ⟨b160, rfl, rfl⟩; refine tl_x rfl (o_apB Try.underlying22 Try.underlying22 sz35 by35 z35 rfl (by decide) (by decide) rfl rfl rfl (by repeat (first | with_reducible exact ct_here | apply ct_left)) rfl rfl (by omega) (show _ = mcs (A.reverse.take i ++ [x]) by rw [mcs_append]; rfl)) ?_; rintro _ _ ⟨a161, c161, rfl, hc161, rfl⟩; refine tla ?_; refine tl_nil ?_; refine q_block_n (q_then_n ?_); refine tc_reg ?_
                  refine tlm ?_; refine tv (o_subI rfl rfl (by omega)) ?_; refine tl_env (d := 154) (v := .int .i64 ((A.length : Nat) - 1 - ((i + 1 : Nat) : Int))) (by show Value.int .i64 ((A.length : Int) - 1 - (i : Int) - 1) = _; congr 1; omega) ?_; refine tla ?_; refine nq ?_; exact ⟨_, by omega, i + 1, _, _, by omega, rfl, rfl, rfl, rfl, rfl, by rw [hrs]; repeat (first | with_reducible exact dr_refl | apply dr_keep | apply dr_drop)⟩
                · obtain rfl : i = A.length := by first | omega | (simp at h; omega)
                  refine tc_exit ?_; refine q_then_e (q_then_e (q_block_x (q_then_n ?_))); refine tc_seq ?_; refine tc_eq (show _ = F * pt b3 (cl K.cells 35) * Sl 3 (.slice a20 L.length c20) L.length (mcs L) * Sl 3 (.slice a38 A.length c38) A.length (mcs A) * Sl 3 (.slice ab A.length cb) A.length (mcs A.reverse) by rw [List.take_of_length_le (by rw [List.length_reverse]; exact Nat.le_refl _)]) ?_; refine tc_reg ?_; refine tlm ?_; refine tl_c rfl (o_call bd27 rfl (Packw (l := A.reverse) hA.pack_rev (hr := (by repeat (first | with_reducible exact rs_sl | assumption | apply Rs.left))) (hm := List.length_reverse) (hW := hA.w_rev))) ?_; rintro _ _ ⟨rfl, rfl⟩; refine tlm ?_; refine tv (o_extract rfl rfl) ?_; refine tv (o_extract rfl rfl) ?_; refine tla ?_; refine tla ?_; refine nq ?_; refine sr ?_; refine tlm ?_; refine tl_c rfl (o_call bd27 rfl (Packw (l := A) hA.pack (hr := (by repeat (first | with_reducible exact rs_sl | assumption | apply Rs.left))) (hm := rfl) (hW := hA.w))) ?_; rintro _ _ ⟨rfl, rfl⟩; refine tlm ?_; refine tv (o_extract rfl rfl) ?_; refine tv (o_extract rfl rfl) ?_
                  refine tla ?_; refine tla ?_; refine nq ?_; refine sr ?_; refine tlm ?_; refine tl_c rfl (o_call bd30 rfl (Unpackw (s := sob (pkS A)) hA.unp)) ?_; rintro _ _ ⟨a174, c174, rfl, hc174, rfl⟩; refine tlm ?_; refine tv (o_extract rfl rfl) ?_; refine tv (o_extract rfl rfl) ?_; refine tla ?_; refine tla ?_; refine nq ?_; refine tc_seq ?_; refine sr ?_; refine tlm ?_; refine tv (o_nei rfl rfl) ?_; refine tlm ?_; refine tl_bool (d := 179) rfl (fun h => ?_) (fun h => ?_)
                  · exfalso; simp at h
                  · try simp only [lv1, lv2, lv3, lv4, lv5, lv6, Bool.not_true, Bool.not_false] at h
                    refine tlm ?_; refine tv (o_nei rfl rfl) ?_; refine tv (o_pick_f rfl (by conv => lhs; whnf)) ?_; refine tlm ?_; refine tl_bool (d := 183) rfl (fun h => ?_) (fun h => ?_)
                    · exfalso; simp at h
                    · try simp only [lv1, lv2, lv3, lv4, lv5, lv6, Bool.not_true, Bool.not_false] at h
                      refine tlm ?_; refine tv (o_nei rfl rfl) ?_; refine tv (o_pick_f rfl (by conv => lhs; whnf)) ?_; refine tlm ?_; refine tl_bool (d := 187) rfl (fun h => ?_) (fun h => ?_)
                      · exfalso; simp at h
                      · try simp only [lv1, lv2, lv3, lv4, lv5, lv6, Bool.not_true, Bool.not_false] at h
                        refine tlm ?_; refine tlm ?_; refine tv (o_nestr rfl rfl) ?_; refine tl_env (d := 190) (v := .bool false) (by show Value.bool (decide _) = _; rw [decide_eq_false (by simp)]) ?_; refine tv (o_pick_f rfl (by conv => lhs; whnf)) ?_; refine tlm ?_; refine tl_bool (d := 192) rfl (fun h => ?_) (fun h => ?_)
                        · exfalso; simp at h
                        · try simp only [lv1, lv2, lv3, lv4, lv5, lv6, Bool.not_true, Bool.not_false] at h
                          refine tlm ?_; refine tv (o_lenS Try.underlying9 rfl) ?_; refine tl_env (d := 194) (v := .int .i64 ((16 * A.length : Nat) : Int)) (by show Value.int .i64 ((ByteArray.size _ : Nat) : Int) = _; rw [sob_size, pkS_len]) ?_; refine tlm ?_; refine tv (o_len Try.underlying22 rfl) ?_; refine tv (by first | exact o_mulI rfl rfl (by omega) | exact o_mul rfl rfl) ?_; refine tl_env (d := 197) (v := .int .i64 ((16 * A.length : Nat) : Int)) (by first | rfl | (show Value.int .i64 (IntKind.i64.wrap ((16 * A.length : Nat) : Int)) = _; rw [wrap_i64 (by omega)])) ?_; refine tv (o_nei rfl rfl) ?_; refine tl_env (d := 198) (v := .bool false) (by first | rfl | (show Value.bool (decide _) = _; rw [decide_eq_false (by omega)])) ?_; refine tv (o_pick_f rfl (by conv => lhs; whnf)) ?_; refine tlm ?_; refine tl_bool (d := 200) rfl (fun h => ?_) (fun h => ?_)
                          · exfalso; simp at h
                          · try simp only [lv1, lv2, lv3, lv4, lv5, lv6, Bool.not_true, Bool.not_false] at h
                            refine tlm ?_; refine tv (o_len Try.underlying22 rfl) ?_; refine tlm ?_; refine tv (o_len Try.underlying22 rfl) ?_; refine tv (o_nei rfl rfl) ?_; refine tl_env (d := 205) (v := .bool false) (by first | rfl | (show Value.bool (decide _) = _; rw [decide_eq_false (by omega)])) ?_; refine tv (o_pick_f rfl (by conv => lhs; whnf)) ?_; refine nq ?_; refine tc_cond rfl (fun h => ?_) (fun h => ?_)
                            · exfalso; simp at h
                            · try simp only [lv1, lv2, lv3, lv4, lv5, lv6, Bool.not_true, Bool.not_false] at h
                              refine tc_skip ?_; refine q_then_n ?_; refine tc_seq ?_; refine sr ?_; refine tla ?_; refine nq ?_; refine tc_block ?_; refine tc_loop (fun kk ρ BB => ∃ (i : Nat), (i ≤ A.length) ∧ kk = A.length - i ∧ ρ 17 = .int .i64 (i : Nat) ∧ ρ 3 = .pointer (some ⟨b3, 0, none⟩) ∧ ρ 6 = .slice a38 A.length c38 ∧ ρ 10 = .slice ab A.length cb ∧ ρ 15 = .slice a174 A.length c174 ∧ BB = F * pt b3 (cl K.cells 35) * Sl 3 (.slice a20 L.length c20) L.length (mcs L) * Sl 3 (.slice a38 A.length c38) A.length (mcs A) * Sl 3 (.slice ab A.length cb) A.length (mcs A.reverse) * Sl 3 (.slice a174 A.length c174) A.length (mcs A)) (m := A.length - (0)) ?_ ?_
                              · exact ⟨0, by omega, rfl, rfl, rfl, rfl, rfl, rfl, rfl⟩
                              · intro k ρ B hI
                                obtain ⟨i, hp0, hkk3, hE17, hE3, hE6, hE10, hE15, rfl⟩ := hI
                                refine tc_env (d := 17) hE17 ?_; refine tc_env (d := 3) hE3 ?_; refine tc_env (d := 6) hE6 ?_; refine tc_env (d := 10) hE10 ?_; refine tc_env (d := 15) hE15 ?_
                                clear hE17 hE3 hE6 hE10 hE15
                                refine tc_seq ?_; refine sr ?_; refine tlm ?_; refine tlm ?_; refine tv (o_len Try.underlying22 rfl) ?_; refine tv (o_lss rfl rfl) ?_; refine nq ?_; refine tc_cond rfl (fun h => ?_) (fun h => ?_)
                                · have hi : i < A.length := by first | omega | (simp at h; omega)
                                  obtain ⟨x, hx⟩ : ∃ x, A[i] = x := ⟨_, rfl⟩
                                  refine tc_skip ?_; refine q_then_n ?_; refine tc_seq ?_; refine tc_block ?_; refine tc_seq ?_; refine tc_regq mo (by kernel_rfl) ?_; refine ql_v rfl (o_move (by conv => lhs; whnf)) ?_; refine ql_v rfl (o_move (by conv => lhs; whnf)) ?_; refine ql_v rfl (o_ixP (a := a38) Try.underlying22 sz35 rfl rfl (by omega) (nn_rs (by repeat (first | with_reducible exact rs_sl | assumption | apply Rs.left)) (fun _ => by rw [mcs_len]; omega))) ?_; refine ql_v rfl (o_ldPN (a := a38) (vs := x.cells) a35 sz35 rfl (by repeat (first | with_reducible exact rs_sl | assumption | apply Rs.left)) (by rw [mcs_at (by omega), hx]) rfl (by decide)) ?_; refine ql_v rfl (o_move (by conv => lhs; whnf)) ?_; refine ql_v rfl (o_move (by conv => lhs; whnf)) ?_; refine ql_v rfl (o_ixP (a := a174) Try.underlying22 sz35 rfl rfl (by omega) (nn_rs (by repeat (first | with_reducible exact rs_sl | assumption | apply Rs.left)) (fun _ => by rw [mcs_len]; omega))) ?_; refine ql_v rfl (o_ldPN (a := a174) (vs := x.cells) a35 sz35 rfl (by repeat (first | with_reducible exact rs_sl | assumption | apply Rs.left)) (by rw [mcs_at (by omega), hx]) rfl (by decide)) ?_
                                  refine ql_v rfl (o_neMk (a := x) (b := x) rfl rfl) ?_; refine ql_nil ?_; refine q_then_n ?_; refine tc_cond rfl (fun h => ?_) (fun h => ?_)
                                  · exfalso; simp at h
                                  · try simp only [lv1, lv2, lv3, lv4, lv5, lv6, Bool.not_true, Bool.not_false] at h
                                    refine tc_skip ?_; refine q_block_n (q_then_n ?_); refine tc_reg ?_; refine tlm ?_; refine tv (by first | exact o_addI rfl rfl (by omega) | exact o_add rfl rfl) ?_; refine tla ?_; refine nq ?_; exact ⟨_, by omega, i + 1, by omega, rfl, rfl, rfl, rfl, rfl, rfl, rfl⟩
                                · try simp only [lv1, lv2, lv3, lv4, lv5, lv6, Bool.not_true, Bool.not_false] at h
                                  refine tc_exit ?_; refine q_then_e (q_then_e (q_block_x (q_then_n ?_))); refine sr ?_; refine tlm ?_; refine tv (o_fieldAddr (o := 0) Try.underlying35 rfl rfl sz33 rfl) ?_; refine tv (by first | exact o_load p33 rfl (by repeat (first | with_reducible exact has_here | with_reducible exact has_pt | apply has_left)) rfl | exact o_loadC p33 rfl (by assumption)) ?_; refine tl_c rfl (o_call bd23 rfl (Unsetw (l := A.reverse) (id := K.id) (n := A.length) hC1 (hr := (by repeat (first | with_reducible exact rs_sl | assumption | apply Rs.left))) (hm := List.length_reverse))) ?_; rintro _ _ ⟨a226, c226, rfl, hc226, rfl⟩; refine tlm ?_; refine tv (o_extract rfl rfl) ?_; refine tv (o_extract rfl rfl) ?_; refine tla ?_; refine tla ?_; refine nq ?_; refine sr ?_; refine tlm ?_; refine tv (o_fieldAddr (o := 0) Try.underlying35 rfl rfl sz33 rfl) ?_
                                  refine tv (by first | exact o_load p33 rfl (by repeat (first | with_reducible exact has_here | with_reducible exact has_pt | apply has_left)) rfl | exact o_loadC p33 rfl (by assumption)) ?_; refine tl_c rfl (o_call bd23 rfl (Unsetw (l := C) (id := K.id) (n := C.length) hC4 (hr := (by repeat (first | with_reducible exact rs_sl | assumption | apply Rs.left))) (hm := rfl))) ?_; rintro _ _ ⟨a233, c233, rfl, hc233, rfl⟩; refine tlm ?_; refine tv (o_extract rfl rfl) ?_; refine tv (o_extract rfl rfl) ?_; refine tla ?_; refine nq ?_; refine sr ?_; refine tlm ?_; refine tv (o_eqi rfl rfl) ?_; refine tlm ?_; refine tl_bool (d := 238) rfl (fun h => ?_) (fun h => ?_)
                                  · try simp only [lv1, lv2, lv3, lv4, lv5, lv6, Bool.not_true, Bool.not_false] at h
                                    refine tlm ?_; refine tv (o_eqi rfl rfl) ?_; refine tv (o_pick_t rfl (by conv => lhs; whnf)) ?_; refine tlm ?_; refine tl_bool (d := 242) rfl (fun h => ?_) (fun h => ?_)
                                    · try simp only [lv1, lv2, lv3, lv4, lv5, lv6, Bool.not_true, Bool.not_false] at h
                                      refine tlm ?_; refine tv (o_len Try.underlying22 rfl) ?_; refine tlm ?_; refine tv (o_len Try.underlying22 rfl) ?_; refine tv (o_subI rfl rfl (by omega)) ?_; refine tv (o_eqi rfl rfl) ?_; refine tl_env (d := 248) (v := .bool true) (by show Value.bool (decide _) = _; rw [decide_eq_true (by omega)]) ?_; refine tv (o_pick_t rfl (by conv => lhs; whnf)) ?_; refine tlm ?_; refine tl_bool (d := 250) rfl (fun h => ?_) (fun h => ?_)
                                      · try simp only [lv1, lv2, lv3, lv4, lv5, lv6, Bool.not_true, Bool.not_false] at h
                                        refine tl_c rfl (o_call bd15 rfl (worksM_c)) ?_; rintro _ _ ⟨rfl, rfl⟩; refine tv (o_pick_t rfl (by conv => lhs; whnf)) ?_; refine tla ?_; refine nq ?_; refine tc_ret ?_; exact ⟨.bool true, F, res1 rfl rfl, Dr.sat (by repeat (first | with_reducible exact dr_refl | apply dr_keep | apply dr_drop)), rfl, rfl⟩
                                      · exfalso; simp at h
                                    · exfalso; simp at h
                                  · exfalso; simp at h
theorem MarksKeep_L (F : SP) (v : Value) (l : List Mk) (h : PMkG F [v] l) (cs : Array Value) (x : Mk) (hx : cs.toList = x.cells ∧ MkW x) : Fn Try.prog 9 #[v, .agg cs] F (fun r B => r = .bool true ∧ B = F) := by
  obtain ⟨a, c, e, hc, hs, hr, hw⟩ := h
  simp only [List.cons.injEq, and_true] at e
  subst e
  obtain rfl : cs = x.cells.toArray := by rw [← hx.1]
  exact MarksKeep_f F hr rfl hw hx.2 (reach_mk hs)
end Go.Vl
