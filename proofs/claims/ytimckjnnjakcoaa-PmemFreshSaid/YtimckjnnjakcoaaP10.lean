/- vellumlaw08: PmemFresh. Conditions: none. -/
import Derived.Test.YtimckjnnjakcoaaP7
import Derived.Test.YtimckjnnjakcoaaAp
import Derived.Test.YtimckjnnjakcoaaRd8
set_option linter.unusedVariables false
set_option linter.unusedSimpArgs false
namespace Go.Vl
open Go Go.Proofs


theorem parts_two {vs : List Value} {ls : List (List Nat)} (h : vs.length = ls.length) (h2 : 2 ≤ ls.length) : ∃ R, Parts vs ls = R * Sl 1 (vs[0]'(by omega)) ls[0].length (bys ls[0]) * Sl 1 (vs[ls.length - 1]'(by omega)) ls[ls.length - 1].length (bys ls[ls.length - 1]) := by
  match vs, ls, h, h2 with
  | [], [], _, h2 => simp at h2
  | [], _ :: _, h, _ => simp at h
  | _ :: _, [], h, _ => simp at h
  | v :: vs, l :: ls, h, h2 =>
    have h3 : vs.length = ls.length := by simpa using h
    simp only [List.length_cons] at h2
    obtain ⟨R, e, _⟩ := parts_get (vs := vs) (ls := ls) (i := ls.length - 1) h3 (by omega)
    refine ⟨R, ?_⟩
    show Parts vs ls * Sl 1 v l.length (bys l) = _
    have e1 : (v :: vs)[(l :: ls).length - 1]'(by simp; omega) = vs[ls.length - 1]'(by omega) := by
      have : (l :: ls).length - 1 = (ls.length - 1) + 1 := by simp; omega
      simp only [this, List.getElem_cons_succ]
    have e2 : (l :: ls)[(l :: ls).length - 1]'(by simp) = ls[ls.length - 1]'(by omega) := by
      have : (l :: ls).length - 1 = (ls.length - 1) + 1 := by simp; omega
      simp only [this, List.getElem_cons_succ]
    rw [e, e1, e2]
    show R * _ * Sl 1 v l.length (bys l) = R * Sl 1 v l.length (bys l) * _
    rw [star_swap]
theorem fresh7 {X : SP} {va vb vi vk : Value} {vs ws : List Value} {C : List (List Nat)} {A1 I : List Nat} {b : Nat} {E : TypeId} {na ni : Nat} (hna : A1.length = na) (hni : I.length = ni) (hv : vs.length = C.length) (hw : ws.length = C.length) (h2 : 2 ≤ C.length) {g : Gh} {w : World}
    (h : sat g w (X * Sl 1 va na (bys A1) * Sl 1 vb na (bys A1) * Sl 1 vi ni (bys I) * Sl 1 vk ni (bys I) * Parts vs C * Parts ws C * pt b (cl [va, vb, vi, vk, vs[0]'(by omega), ws[0]'(by omega), vs[C.length - 1]'(by omega)] E))) :
    sat g w (X * Parts [va, vb, vi, vk, vs[0]'(by omega), ws[0]'(by omega), vs[C.length - 1]'(by omega)] [A1, A1, I, I, C[0], C[0], C[C.length - 1]] * Sl 1 (.slice (some ⟨b, 0, none⟩) 7 7) 7 [va, vb, vi, vk, vs[0]'(by omega), ws[0]'(by omega), vs[C.length - 1]'(by omega)]) := by
  subst hna hni
  obtain ⟨R, e⟩ := parts_two hv h2
  obtain ⟨R', e', _⟩ := parts_get hw (show 0 < C.length by omega)
  rw [e, e'] at h
  have h' := sl_new (k := 1) (n := 7) (cap := 7) (xs := [va, vb, vi, vk, vs[0]'(by omega), ws[0]'(by omega), vs[C.length - 1]'(by omega)]) h (by omega) (by simp) (by simp)
  refine (h'.perm (show _ = X * (emp * Sl 1 (vs[C.length - 1]'(by omega)) C[C.length - 1].length (bys C[C.length - 1]) * Sl 1 (ws[0]'(by omega)) C[0].length (bys C[0]) * Sl 1 (vs[0]'(by omega)) C[0].length (bys C[0]) * Sl 1 vk I.length (bys I) * Sl 1 vi I.length (bys I) * Sl 1 vb A1.length (bys A1) * Sl 1 va A1.length (bys A1)) * Sl 1 (.slice (some ⟨b, 0, none⟩) 7 7) 7 [va, vb, vi, vk, vs[0]'(by omega), ws[0]'(by omega), vs[C.length - 1]'(by omega)] * (R * R') from ?_)).left
  rw [emp_star]; ac_rfl
theorem fresh6 {X : SP} {va vb vi vk vl : Value} {vs ws : List Value} {C : List (List Nat)} {A1 I : List Nat} {b : Nat} {E : TypeId} {na ni : Nat} (hna : A1.length = na) (hni : I.length = ni) (hv : vs.length = C.length) (hw : ws.length = C.length) (h2 : 0 < C.length) {g : Gh} {w : World}
    (h : sat g w (X * Sl 1 va na (bys A1) * Sl 1 vb na (bys A1) * Sl 1 vi ni (bys I) * Sl 1 vk ni (bys I) * Parts vs C * Parts ws C * pt b (cl [va, vb, vi, vk, vs[0]'(by omega), ws[0]'(by omega), vl] E))) :
    sat g w (X * Parts [va, vb, vi, vk, vs[0]'(by omega), ws[0]'(by omega)] [A1, A1, I, I, C[0], C[0]] * Sl 1 (.slice (some ⟨b, 0, none⟩) 6 7) 6 [va, vb, vi, vk, vs[0]'(by omega), ws[0]'(by omega)]) := by
  subst hna hni
  obtain ⟨R, e, _⟩ := parts_get hv h2
  obtain ⟨R', e', _⟩ := parts_get hw h2
  rw [e, e'] at h
  have h' := sl_new (k := 1) (n := 6) (cap := 7) (xs := [va, vb, vi, vk, vs[0]'(by omega), ws[0]'(by omega)]) h (by omega) (by simp) (by simp)
  refine (h'.perm (show _ = X * (emp * Sl 1 (ws[0]'(by omega)) C[0].length (bys C[0]) * Sl 1 (vs[0]'(by omega)) C[0].length (bys C[0]) * Sl 1 vk I.length (bys I) * Sl 1 vi I.length (bys I) * Sl 1 vb A1.length (bys A1) * Sl 1 va A1.length (bys A1)) * Sl 1 (.slice (some ⟨b, 0, none⟩) 6 7) 6 [va, vb, vi, vk, vs[0]'(by omega), ws[0]'(by omega)] * (R * R') from ?_)).left
  rw [emp_star]; ac_rfl
theorem ctS_64 {s : DevS} {q : Nat} (hw : WfD s) (hq : q < s.ls.length) : ∀ l ∈ ctS q s, l.length = 64 := fun l hl => by
  rw [ctS_at hq] at hl
  obtain ⟨x, hx, rfl⟩ := List.mem_map.1 hl
  rw [lb_length, (hw.line _ (List.getElem_mem hq)).eight x hx]
theorem rs_cutB {A : SP} {a : Option Addr} {cap l : Nat} {X : List Nat} (h : Rs A a (bys X)) (hx : X.length ≤ cap) : Rs A (cutAddr a cap l 1) (bys (X.drop l)) := by
  have := rs_cut (l := l) (k := 1) (cap := cap) h (by rw [bys_length]; omega)
  rw [Nat.mul_one] at this
  unfold bys at this ⊢
  rwa [← List.map_drop] at this
theorem spl_take_le {α : Type} {l b : List α} {p k : Nat} (h : p + b.length ≤ l.length) (hk : k ≤ p) : (spl l p b).take k = l.take k := by
  apply List.ext_getElem?
  intro i
  rw [List.getElem?_take, List.getElem?_take]
  split
  · rw [spl_at h, if_neg (by omega)]
  · rfl
theorem spl_drop_ge {α : Type} {l b : List α} {p k : Nat} (h : p + b.length ≤ l.length) (hk : p + b.length ≤ k) : (spl l p b).drop k = l.drop k := by
  apply List.ext_getElem?
  intro i
  rw [List.getElem?_drop, List.getElem?_drop, spl_at h, if_neg (by omega)]
theorem st8_img {s s2 : DevS} {w v : Nat} {e : Int} {p : Int} (h : st8 p v s = (e, s2)) (hp : p = ((8 * w : Nat) : Int)) (hw : WfD s) (hL : Live s) (hi : 8 * w + 8 ≤ s.ls.length * 64) (hv : v < 18446744073709551616) (hr : Room 1 s) : e = 0 ∧ imgS s2 = spl (imgS s) (8 * w) (le 8 v) ∧ s2.ls.length = s.ls.length ∧ s2.ops = wr64 (s.ops + 1) := by
  subst hp
  rw [st8_live hL hi] at h
  simp only [Prod.mk.injEq] at h
  obtain ⟨rfl, rfl⟩ := h
  refine ⟨rfl, ?_, layS_len _ _ _, rfl⟩
  show imgS (layS (8 * w) v s) = _
  exact img_lay hw (by omega) (by omega) hv hr
theorem parts_at {vs : List Value} {ls : List (List Nat)} {X : SP} {g : Gh} {w : World} (h : sat g w (X * Parts vs ls)) {i : Nat} (hi : i < ls.length) : ∃ a c, vs[i]? = some (.slice a ls[i].length c) := by
  have hl := parts_len h
  obtain ⟨R, e, _⟩ := parts_get hl hi
  rw [e, ← star_assoc] at h
  obtain ⟨a, c, e1, _⟩ := sl_have h
  exact ⟨a, c, by rw [List.getElem?_eq_getElem (by omega), e1]⟩
theorem parts_atC {A R : SP} {C : SP → SP} {vs : List Value} {ls : List (List Nat)} (hc : Ct A (Parts vs ls) R C) {g : Gh} {w : World} (h : sat g w A) {i : Nat} (hi : i < ls.length) : ∃ a c, vs[i]? = some (.slice a ls[i].length c) := by
  obtain ⟨rfl, _⟩ := hc
  exact parts_at h hi
theorem parts_lenC {A R : SP} {C : SP → SP} {vs : List Value} {ls : List (List Nat)} (hc : Ct A (Parts vs ls) R C) {g : Gh} {w : World} (h : sat g w A) : vs.length = ls.length := by
  obtain ⟨rfl, _⟩ := hc
  exact parts_len h
theorem img_bytes {s : DevS} : ∀ x ∈ imgS s, x < 256 := fun x hx => by
  unfold imgS img at hx
  obtain ⟨l, _, hx⟩ := List.mem_flatMap.1 hx
  exact lb_bytes _ x hx
theorem le_num (v : Nat) (h : v < 18446744073709551616) : nm (le 8 v) = v := by rw [nm_le]; exact Nat.mod_eq_of_lt h

attribute [local irreducible] Sl Dev PlD SlR pt ro Parts

set_option maxRecDepth 20000 in
set_option maxHeartbeats 2000000 in
theorem PmemFreshW_f (F : SP) (lines k0 : Int) (a : Option Addr) (c n0 : Nat) (ss : List StepC) (P : PlS) (hn : n0 = 1 + wi lines 4) (hPd : P = playL ss (begS n0)) (hr : Rs F a (scs ss)) (hss : ∀ t ∈ ss, t.v < 18446744073709551616) (hl : ss.length + 16 ≤ 2199023255552) :
    Fn Try.prog 6 #[.int .i64 lines, .slice a ss.length c, .int .i64 k0] (F) (fun r B => r = .bool true ∧ B = F) := by
  have hE := @fn_enterW Try.prog 6 Try.f6 _ [.int .i64 lines, .slice a ss.length c, .int .i64 k0] (F) (fun r B => r = .bool true ∧ B = F) _ Try.func6 rfl Try.ntmps6 (by simp)
  refine hE ?_
  clear hE
  have hwi := wi_lt (p := lines) (show 0 < 4 by omega)
  have hn1 : 0 < n0 := by omega
  have hn4 : n0 ≤ 4 := by omega
  refine tc_seq ?_
  refine tc_reg ?_
  refine tl_v rfl (o_assign (by conv => lhs; whnf)) ?_
  refine tl_nil ?_
  refine q_then_n ?_
  refine tc_seq ?_
  refine tc_seq ?_
  refine tc_reg ?_
  refine tl_c rfl (o_call bd25 rfl (awake_c)) ?_
  rintro _ _ ⟨rfl, rfl⟩
  refine tl_v rfl (o_not rfl) ?_
  refine tl_nil ?_
  refine q_then_n ?_
  refine tc_cond rfl (fun h => ?_) (fun h => ?_)
  · (exfalso; first | (revert h; simp; done) | (simp at h; done) | (revert h; simp; omega) | (simp at h; omega) | omega)
  · try simp only [decide_eq_true_eq, decide_eq_false_iff_not, Bool.not_eq_true', Bool.not_eq_false', Option.isNone_some, Option.isNone_none, Bool.not_true, Bool.not_false] at h
    refine tc_skip ?_
    refine q_then_n ?_
    refine tc_seq ?_
    refine tc_reg ?_
    refine tl_v rfl (o_move (by conv => lhs; whnf)) ?_
    refine tl_v rfl (o_move (by conv => lhs; whnf)) ?_
    refine tl_c rfl (o_call bd26 rfl (begun_c (n := n0) (ss := ss))) ?_
    rintro _ _ ⟨p27, d27, sv27, hv27, lv27, uv27, mv27, hvs27, rfl, rfl⟩
    rw [← hPd]
    obtain ⟨hP, hLv⟩ := playL_ok ss (r := 1) (P := begS n0) (begS_wf hn1 hn4 (by omega)) (begS_live n0)
    rw [← hPd] at hP hLv
    refine tl_have (fun _ _ h => plD_marks h.left) fun ⟨am, cm, hmv⟩ => ?_
    subst hmv
    refine tl_have (fun _ _ h => ct_wf (d := d27) (s := P.s) ct_here h) fun hw => ?_
    have hpos := hP.pos
    have htop := hP.top
    have hlsl := hP.ls
    have hroom := hP.room
    have hil : (imgS P.s).length = P.s.ls.length * 64 := img_length hw.line
    obtain ⟨q, hq⟩ : ∃ q, q = wi k0 P.marks.length := ⟨_, rfl⟩
    have hqlt : q < P.s.ls.length := by rw [hq, hlsl]; exact wi_lt hpos
    have hW : ((((imgS P.s).drop (64 * q)).take 64)).length = 64 := by rw [List.length_take, List.length_drop]; omega
    have hct := ctS_at hqlt
    have hc64 := ctS_64 hw hqlt
    have hK : 0 < (ctS q P.s).length := by rw [hct, List.length_map]; exact List.length_pos_iff.2 (hw.line _ (List.getElem_mem hqlt)).ne
    have hKs : (ctS q P.s).length ≤ 2199023255552 := by rw [hct, List.length_map]; exact (hw.line _ (List.getElem_mem hqlt)).small
    refine tl_v rfl (o_move (by conv => lhs; whnf)) ?_
    refine tl_v rfl (o_extract rfl rfl) ?_
    refine tl_v rfl (o_extract rfl rfl) ?_
    refine tl_v rfl (o_assign (by conv => lhs; whnf)) ?_
    refine tl_v rfl (o_assign (by conv => lhs; whnf)) ?_
    refine tl_nil ?_
    refine q_then_n ?_
    refine tc_seq ?_
    refine tc_seq ?_
    refine tc_reg ?_
    refine tl_v rfl (o_move (by conv => lhs; whnf)) ?_
    refine tl_v rfl (o_not rfl) ?_
    refine tl_nil ?_
    refine q_then_n ?_
    refine tc_cond rfl (fun h => ?_) (fun h => ?_)
    · (exfalso; first | (revert h; simp; done) | (simp at h; done) | (revert h; simp; omega) | (simp at h; omega) | omega)
    · try simp only [decide_eq_true_eq, decide_eq_false_iff_not, Bool.not_eq_true', Bool.not_eq_false', Option.isNone_some, Option.isNone_none, Bool.not_true, Bool.not_false] at h
      refine tc_skip ?_
      refine q_then_n ?_
      refine tc_seq ?_
      refine tc_reg ?_
      refine tl_v rfl (o_move (by conv => lhs; whnf)) ?_
      refine tl_v rfl (o_move (by conv => lhs; whnf)) ?_
      refine tl_v rfl (o_nilCheck rfl) ?_
      refine tl_v rfl (o_fieldAddr (o := 5) Try.underlying46 rfl rfl sz37 rfl) ?_
      refine tl_v rfl (o_load p37 rfl (by repeat (first | with_reducible exact plD_p | apply has_left)) rfl) ?_
      refine tl_v rfl (o_len Try.underlying37 rfl) ?_
      refine tl_c rfl (o_call bd37 rfl (within_c)) ?_
      rintro _ _ ⟨rfl, rfl⟩
      refine tl_env (d := 38) (v := .int .i64 ((q : Nat) : Int)) (by show Value.int .i64 (k0 % (P.marks.length : Int)) = _; rw [wi_cast hpos, hq]) ?_
      refine tl_v rfl (o_assign (by conv => lhs; whnf)) ?_
      refine tl_nil ?_
      refine q_then_n ?_
      refine tc_seq ?_
      refine tc_reg ?_
      refine tl_v rfl (o_move (by conv => lhs; whnf)) ?_
      refine tl_v rfl (o_nilCheck rfl) ?_
      refine tl_v rfl (o_fieldAddr (o := 0) Try.underlying46 rfl rfl sz41 rfl) ?_
      refine tl_v rfl (o_load p41 rfl (by repeat (first | with_reducible exact plD_p | apply has_left)) rfl) ?_
      refine tl_c rfl (o_call bd38 rfl (Copy_c)) ?_
      rintro _ _ ⟨d43, rfl, rfl⟩
      refine tl_v rfl (o_assign (by conv => lhs; whnf)) ?_
      refine tl_nil ?_
      refine q_then_n ?_
      refine tc_seq ?_
      refine tc_reg ?_
      refine tl_v rfl (o_move (by conv => lhs; whnf)) ?_
      refine tl_v rfl (o_nilCheck rfl) ?_
      refine tl_v rfl (o_fieldAddr (o := 0) Try.underlying46 rfl rfl sz41 rfl) ?_
      refine tl_v rfl (o_load p41 rfl (by repeat (first | with_reducible exact plD_p | apply has_left)) rfl) ?_
      refine tl_v rfl (o_move (by conv => lhs; whnf)) ?_
      refine tl_v rfl (by first | exact o_mulI rfl rfl (by omega) | exact o_mul rfl rfl) ?_
      refine tl_env (d := 50) (v := .int .i64 ((64 * q : Nat) : Int)) (rfl) ?_
      refine tl_c rfl (o_call bd27 rfl (Load_c (p := 64 * q) (m := 64) (hoff := hLv.off))) ?_
      rintro _ _ ⟨a51, c51, rfl, hc51, rfl⟩
      refine tl_v rfl (o_move (by conv => lhs; whnf)) ?_
      refine tl_v rfl (o_extract rfl rfl) ?_
      refine tl_v rfl (o_extract rfl rfl) ?_
      refine tl_v rfl (o_assign (by conv => lhs; whnf)) ?_
      refine tl_v rfl (o_assign (by conv => lhs; whnf)) ?_
      refine tl_nil ?_
      refine q_then_n ?_
      refine tc_seq ?_
      refine tc_reg ?_
      refine tl_v rfl (o_move (by conv => lhs; whnf)) ?_
      refine tl_v rfl (o_nilCheck rfl) ?_
      refine tl_v rfl (o_fieldAddr (o := 0) Try.underlying46 rfl rfl sz41 rfl) ?_
      refine tl_v rfl (o_load p41 rfl (by repeat (first | with_reducible exact plD_p | apply has_left)) rfl) ?_
      refine tl_v rfl (o_move (by conv => lhs; whnf)) ?_
      refine tl_v rfl (by first | exact o_mulI rfl rfl (by omega) | exact o_mul rfl rfl) ?_
      refine tl_env (d := 60) (v := .int .i64 ((64 * q : Nat) : Int)) (rfl) ?_
      refine tl_c rfl (o_call bd27 rfl (Load_c (p := 64 * q) (m := 64) (hoff := hLv.off))) ?_
      rintro _ _ ⟨a61, c61, rfl, hc61, rfl⟩
      refine tl_v rfl (o_move (by conv => lhs; whnf)) ?_
      refine tl_v rfl (o_extract rfl rfl) ?_
      refine tl_v rfl (o_extract rfl rfl) ?_
      refine tl_v rfl (o_assign (by conv => lhs; whnf)) ?_
      refine tl_v rfl (o_assign (by conv => lhs; whnf)) ?_
      refine tl_nil ?_
      refine q_then_n ?_
      refine tc_seq ?_
      refine tc_regh mo dr_refl ?_
      show TH _ _ _ _ _ 14 #[false, false, false, false, false, false, false, false, false, false, false, false, false, false] _ _
      refine th_take (i := 0) (listed' := #[true, false, false, false, false, false, false, false, false, false, false, false, false, false]) rfl (by kernel_rfl) (by kernel_rfl) (by kernel_rfl) rfl rfl (o_move (by conv => lhs; whnf)) ?_
      refine th_take (i := 1) (listed' := #[true, true, false, false, false, false, false, false, false, false, false, false, false, false]) rfl (by kernel_rfl) (by kernel_rfl) (by kernel_rfl) rfl rfl (o_nilCheck rfl) ?_
      refine th_take (i := 2) (listed' := #[true, true, true, false, false, false, false, false, false, false, false, false, false, false]) rfl (by kernel_rfl) (by kernel_rfl) (by kernel_rfl) rfl rfl (o_fieldAddr (o := 0) Try.underlying46 rfl rfl sz41 rfl) ?_
      refine th_take (i := 3) (listed' := #[true, true, true, true, false, false, false, false, false, false, false, false, false, false]) rfl (by kernel_rfl) (by kernel_rfl) (by kernel_rfl) rfl rfl (o_load p41 rfl (by repeat (first | with_reducible exact plD_p | apply has_left)) rfl) ?_
      refine th_take (i := 4) (listed' := #[true, true, true, true, true, false, false, false, false, false, false, false, false, false]) rfl (by kernel_rfl) (by kernel_rfl) (by kernel_rfl) rfl rfl (o_move (by conv => lhs; whnf)) ?_
      refine th_take (i := 6) (listed' := #[true, true, true, true, true, false, true, false, false, false, false, false, false, false]) rfl (by kernel_rfl) (by kernel_rfl) (by kernel_rfl) rfl rfl (o_move (by conv => lhs; whnf)) ?_
      refine th_take (i := 7) (listed' := #[true, true, true, true, true, false, true, true, false, false, false, false, false, false]) rfl (by kernel_rfl) (by kernel_rfl) (by kernel_rfl) rfl rfl (o_nilCheck rfl) ?_
      refine th_take (i := 8) (listed' := #[true, true, true, true, true, false, true, true, true, false, false, false, false, false]) rfl (by kernel_rfl) (by kernel_rfl) (by kernel_rfl) rfl rfl (o_fieldAddr (o := 0) Try.underlying46 rfl rfl sz41 rfl) ?_
      refine th_take (i := 9) (listed' := #[true, true, true, true, true, false, true, true, true, true, false, false, false, false]) rfl (by kernel_rfl) (by kernel_rfl) (by kernel_rfl) rfl rfl (o_load p41 rfl (by repeat (first | with_reducible exact plD_p | apply has_left)) rfl) ?_
      refine th_take (i := 10) (listed' := #[true, true, true, true, true, false, true, true, true, true, true, false, false, false]) rfl (by kernel_rfl) (by kernel_rfl) (by kernel_rfl) rfl rfl (o_move (by conv => lhs; whnf)) ?_
      refine th_one (i := 5) (by kernel_rfl) ?_
      refine oh_c (i := 5) (listed' := #[true, true, true, true, true, true, true, true, true, true, true, false, false, false]) rfl rfl rfl (o_call bd35 rfl (Contents_c)) ?_
      rintro _ _ ⟨a69, c69, vs69, rfl, hc69, rfl⟩
      refine ⟨by repeat (first | with_reducible exact dr_refl | apply dr_keep | apply dr_drop), ?_⟩
      refine th_one (i := 11) (by kernel_rfl) ?_
      refine oh_c (i := 11) (listed' := #[true, true, true, true, true, true, true, true, true, true, true, true, false, false]) rfl rfl rfl (o_call bd35 rfl (Contents_c)) ?_
      rintro _ _ ⟨a75, c75, vs75, rfl, hc75, rfl⟩
      refine ⟨by repeat (first | with_reducible exact dr_refl | apply dr_keep | apply dr_drop), ?_⟩
      refine th_take (i := 12) (listed' := #[true, true, true, true, true, true, true, true, true, true, true, true, true, false]) rfl (by kernel_rfl) (by kernel_rfl) (by kernel_rfl) rfl rfl (o_assign (by conv => lhs; whnf)) ?_
      refine th_take (i := 13) (listed' := #[true, true, true, true, true, true, true, true, true, true, true, true, true, true]) rfl (by kernel_rfl) (by kernel_rfl) (by kernel_rfl) rfl rfl (o_assign (by conv => lhs; whnf)) ?_
      refine th_done (by kernel_rfl) ?_
      refine q_then_n ?_
      refine tc_seq ?_
      refine tc_regh mo dr_refl ?_
      show TH _ _ _ _ _ 12 #[false, false, false, false, false, false, false, false, false, false, false, false] _ _
      refine th_take (i := 0) (listed' := #[true, false, false, false, false, false, false, false, false, false, false, false]) rfl (by kernel_rfl) (by kernel_rfl) (by kernel_rfl) rfl rfl (o_move (by conv => lhs; whnf)) ?_
      refine th_take (i := 1) (listed' := #[true, true, false, false, false, false, false, false, false, false, false, false]) rfl (by kernel_rfl) (by kernel_rfl) (by kernel_rfl) rfl rfl (o_nilCheck rfl) ?_
      refine th_take (i := 2) (listed' := #[true, true, true, false, false, false, false, false, false, false, false, false]) rfl (by kernel_rfl) (by kernel_rfl) (by kernel_rfl) rfl rfl (o_fieldAddr (o := 0) Try.underlying46 rfl rfl sz41 rfl) ?_
      refine th_take (i := 3) (listed' := #[true, true, true, true, false, false, false, false, false, false, false, false]) rfl (by kernel_rfl) (by kernel_rfl) (by kernel_rfl) rfl rfl (o_load p41 rfl (by repeat (first | with_reducible exact plD_p | apply has_left)) rfl) ?_
      refine th_take (i := 5) (listed' := #[true, true, true, true, false, true, false, false, false, false, false, false]) rfl (by kernel_rfl) (by kernel_rfl) (by kernel_rfl) rfl rfl (o_move (by conv => lhs; whnf)) ?_
      refine th_take (i := 6) (listed' := #[true, true, true, true, false, true, true, false, false, false, false, false]) rfl (by kernel_rfl) (by kernel_rfl) (by kernel_rfl) rfl rfl (o_nilCheck rfl) ?_
      refine th_take (i := 7) (listed' := #[true, true, true, true, false, true, true, true, false, false, false, false]) rfl (by kernel_rfl) (by kernel_rfl) (by kernel_rfl) rfl rfl (o_fieldAddr (o := 0) Try.underlying46 rfl rfl sz41 rfl) ?_
      refine th_take (i := 8) (listed' := #[true, true, true, true, false, true, true, true, true, false, false, false]) rfl (by kernel_rfl) (by kernel_rfl) (by kernel_rfl) rfl rfl (o_load p41 rfl (by repeat (first | with_reducible exact plD_p | apply has_left)) rfl) ?_
      refine th_one (i := 4) (by kernel_rfl) ?_
      refine oh_c (i := 4) (listed' := #[true, true, true, true, true, true, true, true, true, false, false, false]) rfl rfl rfl (o_call bd33 rfl (Image_c)) ?_
      rintro _ _ ⟨a80, c80, rfl, hc80, rfl⟩
      refine ⟨by repeat (first | with_reducible exact dr_refl | apply dr_keep | apply dr_drop), ?_⟩
      refine th_one (i := 9) (by kernel_rfl) ?_
      refine oh_c (i := 9) (listed' := #[true, true, true, true, true, true, true, true, true, true, false, false]) rfl rfl rfl (o_call bd33 rfl (Image_c)) ?_
      rintro _ _ ⟨a85, c85, rfl, hc85, rfl⟩
      refine ⟨by repeat (first | with_reducible exact dr_refl | apply dr_keep | apply dr_drop), ?_⟩
      refine th_take (i := 10) (listed' := #[true, true, true, true, true, true, true, true, true, true, true, false]) rfl (by kernel_rfl) (by kernel_rfl) (by kernel_rfl) rfl rfl (o_assign (by conv => lhs; whnf)) ?_
      refine th_take (i := 11) (listed' := #[true, true, true, true, true, true, true, true, true, true, true, true]) rfl (by kernel_rfl) (by kernel_rfl) (by kernel_rfl) rfl rfl (o_assign (by conv => lhs; whnf)) ?_
      refine th_done (by kernel_rfl) ?_
      refine q_then_n ?_
      refine tc_seq ?_
      refine tc_seq ?_
      refine tc_reg ?_
      refine tl_v rfl (o_move (by conv => lhs; whnf)) ?_
      refine tl_v rfl (o_eqp Try.underlying41 rfl rfl) ?_
      refine tl_v rfl (o_move (by conv => lhs; whnf)) ?_
      refine tl_bool (d := 88) rfl (fun h => ?_) (fun h => ?_)
      · (exfalso; first | (revert h; simp; done) | (simp at h; done) | (revert h; simp; omega) | (simp at h; omega) | omega)
      · try simp only [decide_eq_true_eq, decide_eq_false_iff_not, Bool.not_eq_true', Bool.not_eq_false', Option.isNone_some, Option.isNone_none, Bool.not_true, Bool.not_false] at h
        refine tl_v rfl (o_move (by conv => lhs; whnf)) ?_
        refine tl_v rfl (o_len Try.underlying28 rfl) ?_
        refine tl_v rfl (o_nei rfl rfl) ?_
        refine tl_v rfl (o_pick_f rfl (by conv => lhs; whnf)) ?_
        refine tl_v rfl (o_move (by conv => lhs; whnf)) ?_
        refine tl_bool (d := 93) rfl (fun h => ?_) (fun h => ?_)
        · (exfalso; first | (revert h; simp; done) | (simp at h; done) | (revert h; simp; omega) | (simp at h; omega) | omega)
        · try simp only [decide_eq_true_eq, decide_eq_false_iff_not, Bool.not_eq_true', Bool.not_eq_false', Option.isNone_some, Option.isNone_none, Bool.not_true, Bool.not_false] at h
          refine tl_v rfl (o_move (by conv => lhs; whnf)) ?_
          refine tl_v rfl (o_len Try.underlying33 rfl) ?_
          refine tl_v rfl (o_eqi rfl rfl) ?_
          refine tl_v rfl (o_pick_f rfl (by conv => lhs; whnf)) ?_
          refine tl_v rfl (o_move (by conv => lhs; whnf)) ?_
          refine tl_bool (d := 98) rfl (fun h => ?_) (fun h => ?_)
          · exfalso; rw [decide_eq_true_eq] at h; omega
          · try simp only [decide_eq_true_eq, decide_eq_false_iff_not, Bool.not_eq_true', Bool.not_eq_false', Option.isNone_some, Option.isNone_none, Bool.not_true, Bool.not_false] at h
            refine tl_v rfl (o_move (by conv => lhs; whnf)) ?_
            refine tl_v rfl (o_len Try.underlying33 rfl) ?_
            refine tl_v rfl (o_move (by conv => lhs; whnf)) ?_
            refine tl_v rfl (o_len Try.underlying33 rfl) ?_
            refine tl_v rfl (o_nei rfl rfl) ?_
            refine tl_v rfl (o_pick_f rfl (by conv => lhs; whnf)) ?_
            refine tl_v rfl (o_move (by conv => lhs; whnf)) ?_
            refine tl_bool (d := 105) rfl (fun h => ?_) (fun h => ?_)
            · (exfalso; first | (revert h; simp; done) | (simp at h; done) | (revert h; simp; omega) | (simp at h; omega) | omega)
            · try simp only [decide_eq_true_eq, decide_eq_false_iff_not, Bool.not_eq_true', Bool.not_eq_false', Option.isNone_some, Option.isNone_none, Bool.not_true, Bool.not_false] at h
              refine tl_v rfl (o_move (by conv => lhs; whnf)) ?_
              refine tl_v rfl (o_move (by conv => lhs; whnf)) ?_
              refine tl_c rfl (o_call bd22 rfl (EqBytes_c (xs := (((imgS P.s).drop (64 * q)).take 64)) (ys := (((imgS P.s).drop (64 * q)).take 64)) (hx := hW) (hy := hW))) ?_
              rintro _ _ ⟨rfl, rfl⟩
              refine tl_v rfl (o_not rfl) ?_
              refine tl_v rfl (o_pick_f rfl (by conv => lhs; whnf)) ?_
              refine tl_v rfl (o_move (by conv => lhs; whnf)) ?_
              refine tl_bool (d := 111) rfl (fun h => ?_) (fun h => ?_)
              · (exfalso; first | (revert h; simp; done) | (simp at h; done) | (revert h; simp; omega) | (simp at h; omega) | omega)
              · try simp only [decide_eq_true_eq, decide_eq_false_iff_not, Bool.not_eq_true', Bool.not_eq_false', Option.isNone_some, Option.isNone_none, Bool.not_true, Bool.not_false] at h
                refine tl_v rfl (o_move (by conv => lhs; whnf)) ?_
                refine tl_v rfl (o_move (by conv => lhs; whnf)) ?_
                refine tl_c rfl (o_call bd22 rfl (EqBytes_c (xs := imgS P.s) (ys := imgS P.s) (hx := hil) (hy := hil))) ?_
                rintro _ _ ⟨rfl, rfl⟩
                refine tl_v rfl (o_not rfl) ?_
                refine tl_v rfl (o_pick_f rfl (by conv => lhs; whnf)) ?_
                refine tl_nil ?_
                refine q_then_n ?_
                refine tc_cond rfl (fun h => ?_) (fun h => ?_)
                · (exfalso; first | (revert h; simp; done) | (simp at h; done) | (revert h; simp; omega) | (simp at h; omega) | omega)
                · try simp only [decide_eq_true_eq, decide_eq_false_iff_not, Bool.not_eq_true', Bool.not_eq_false', Option.isNone_some, Option.isNone_none, Bool.not_true, Bool.not_false] at h
                  refine tc_skip ?_
                  refine q_then_n ?_
                  refine tc_seq ?_
                  refine tc_reg ?_
                  refine tl_v rfl (o_move (by conv => lhs; whnf)) ?_
                  refine tl_c rfl (o_call bd39 rfl (CopyBytes_c (xs := imgS P.s) (hm := hil))) ?_
                  rintro _ _ ⟨a118, c118, rfl, hc118, rfl⟩
                  refine tl_v rfl (o_assign (by conv => lhs; whnf)) ?_
                  refine tl_nil ?_
                  refine q_then_n ?_
                  refine tc_seq ?_
                  have hK1 : (ctS q P.s).length - 1 < (ctS q P.s).length := by omega
                  refine tc_have (fun _ _ h => parts_lenC (vs := vs69) (ls := ctS q P.s) (by repeat (first | with_reducible exact ct_here | apply ct_left)) h) fun hv69 => ?_
                  refine tc_have (fun _ _ h => parts_lenC (vs := vs75) (ls := ctS q P.s) (by repeat (first | with_reducible exact ct_here | apply ct_left)) h) fun hv75 => ?_
                  refine tc_have (fun _ _ h => parts_atC (vs := vs69) (ls := ctS q P.s) (by repeat (first | with_reducible exact ct_here | apply ct_left)) h hK) fun ⟨ax, cx, hx0⟩ => ?_
                  refine tc_have (fun _ _ h => parts_atC (vs := vs75) (ls := ctS q P.s) (by repeat (first | with_reducible exact ct_here | apply ct_left)) h hK) fun ⟨ay, cy, hy0⟩ => ?_
                  refine tc_have (fun _ _ h => parts_atC (vs := vs69) (ls := ctS q P.s) (by repeat (first | with_reducible exact ct_here | apply ct_left)) h hK1) fun ⟨az, cz, hz0⟩ => ?_
                  refine tc_regh mo dr_refl ?_
                  show TH _ _ _ _ _ 18 #[false, false, false, false, false, false, false, false, false, false, false, false, false, false, false, false, false, false] _ _
                  refine th_take (i := 0) (listed' := #[true, false, false, false, false, false, false, false, false, false, false, false, false, false, false, false, false, false]) rfl (by kernel_rfl) (by kernel_rfl) (by kernel_rfl) rfl rfl (o_move (by conv => lhs; whnf)) ?_
                  refine th_take (i := 1) (listed' := #[true, true, false, false, false, false, false, false, false, false, false, false, false, false, false, false, false, false]) rfl (by kernel_rfl) (by kernel_rfl) (by kernel_rfl) rfl rfl (o_move (by conv => lhs; whnf)) ?_
                  refine th_take (i := 2) (listed' := #[true, true, true, false, false, false, false, false, false, false, false, false, false, false, false, false, false, false]) rfl (by kernel_rfl) (by kernel_rfl) (by kernel_rfl) rfl rfl (o_move (by conv => lhs; whnf)) ?_
                  refine th_take (i := 3) (listed' := #[true, true, true, true, false, false, false, false, false, false, false, false, false, false, false, false, false, false]) rfl (by kernel_rfl) (by kernel_rfl) (by kernel_rfl) rfl rfl (o_move (by conv => lhs; whnf)) ?_
                  refine th_take (i := 4) (listed' := #[true, true, true, true, true, false, false, false, false, false, false, false, false, false, false, false, false, false]) rfl (by kernel_rfl) (by kernel_rfl) (by kernel_rfl) rfl rfl (o_move (by conv => lhs; whnf)) ?_
                  refine th_take (i := 5) (listed' := #[true, true, true, true, true, true, false, false, false, false, false, false, false, false, false, false, false, false]) rfl (by kernel_rfl) (by kernel_rfl) (by kernel_rfl) rfl rfl (o_ixP1 Try.underlying33 sz28 rfl rfl (by first | omega | (simp only [bys_length, ints_length, wds_length, bos_length, List.length_append, List.length_take, List.length_drop, List.length_singleton]; omega)) (by repeat (first | exact nn_some | with_reducible exact nn_sl (by decide) | exact nn_rs (by assumption) (fun _ => by first | omega | (simp only [bys_length, ints_length, wds_length, bos_length, List.length_append, List.length_take, List.length_drop, List.length_singleton]; omega)) | apply Nn.left))) ?_
                  refine th_take (i := 6) (listed' := #[true, true, true, true, true, true, true, false, false, false, false, false, false, false, false, false, false, false]) rfl (by kernel_rfl) (by kernel_rfl) (by kernel_rfl) rfl rfl (o_ldP p28 rfl (by repeat (first | assumption | with_reducible exact rs_sl | with_reducible exact rs_pt0 | exact rs_none | apply Rs.left)) (by first | assumption | exact bys_at (by omega) | exact ints_at (by omega) | exact wds_at (by omega) | exact bos_at (by omega) | rfl)) ?_
                  refine th_take (i := 7) (listed' := #[true, true, true, true, true, true, true, true, false, false, false, false, false, false, false, false, false, false]) rfl (by kernel_rfl) (by kernel_rfl) (by kernel_rfl) rfl rfl (o_move (by conv => lhs; whnf)) ?_
                  refine th_take (i := 8) (listed' := #[true, true, true, true, true, true, true, true, true, false, false, false, false, false, false, false, false, false]) rfl (by kernel_rfl) (by kernel_rfl) (by kernel_rfl) rfl rfl (o_ixP1 Try.underlying33 sz28 rfl rfl (by first | omega | (simp only [bys_length, ints_length, wds_length, bos_length, List.length_append, List.length_take, List.length_drop, List.length_singleton]; omega)) (by repeat (first | exact nn_some | with_reducible exact nn_sl (by decide) | exact nn_rs (by assumption) (fun _ => by first | omega | (simp only [bys_length, ints_length, wds_length, bos_length, List.length_append, List.length_take, List.length_drop, List.length_singleton]; omega)) | apply Nn.left))) ?_
                  refine th_take (i := 9) (listed' := #[true, true, true, true, true, true, true, true, true, true, false, false, false, false, false, false, false, false]) rfl (by kernel_rfl) (by kernel_rfl) (by kernel_rfl) rfl rfl (o_ldP p28 rfl (by repeat (first | assumption | with_reducible exact rs_sl | with_reducible exact rs_pt0 | exact rs_none | apply Rs.left)) (by first | assumption | exact bys_at (by omega) | exact ints_at (by omega) | exact wds_at (by omega) | exact bos_at (by omega) | rfl)) ?_
                  refine th_take (i := 10) (listed' := #[true, true, true, true, true, true, true, true, true, true, true, false, false, false, false, false, false, false]) rfl (by kernel_rfl) (by kernel_rfl) (by kernel_rfl) rfl rfl (o_move (by conv => lhs; whnf)) ?_
                  refine th_take (i := 11) (listed' := #[true, true, true, true, true, true, true, true, true, true, true, true, false, false, false, false, false, false]) rfl (by kernel_rfl) (by kernel_rfl) (by kernel_rfl) rfl rfl (o_move (by conv => lhs; whnf)) ?_
                  refine th_take (i := 12) (listed' := #[true, true, true, true, true, true, true, true, true, true, true, true, true, false, false, false, false, false]) rfl (by kernel_rfl) (by kernel_rfl) (by kernel_rfl) rfl rfl (o_len Try.underlying33 rfl) ?_
                  refine th_take (i := 13) (listed' := #[true, true, true, true, true, true, true, true, true, true, true, true, true, true, false, false, false, false]) rfl (by kernel_rfl) (by kernel_rfl) (by kernel_rfl) rfl rfl (by first | exact o_subI rfl rfl (by omega) | exact o_sub rfl rfl) ?_
                  refine th_env (d := 132) (v := .int .i64 (((ctS q P.s).length - 1 : Nat) : Int)) (by show Value.int .i64 (((ctS q P.s).length : Int) - 1) = _; congr 1; omega) ?_
                  refine th_take (i := 14) (listed' := #[true, true, true, true, true, true, true, true, true, true, true, true, true, true, true, false, false, false]) rfl (by kernel_rfl) (by kernel_rfl) (by kernel_rfl) rfl rfl (o_ixP1 Try.underlying33 sz28 rfl rfl (by first | omega | (simp only [bys_length, ints_length, wds_length, bos_length, List.length_append, List.length_take, List.length_drop, List.length_singleton]; omega)) (by repeat (first | exact nn_some | with_reducible exact nn_sl (by decide) | exact nn_rs (by assumption) (fun _ => by first | omega | (simp only [bys_length, ints_length, wds_length, bos_length, List.length_append, List.length_take, List.length_drop, List.length_singleton]; omega)) | apply Nn.left))) ?_
                  refine th_take (i := 15) (listed' := #[true, true, true, true, true, true, true, true, true, true, true, true, true, true, true, true, false, false]) rfl (by kernel_rfl) (by kernel_rfl) (by kernel_rfl) rfl rfl (o_ldP p28 rfl (by repeat (first | assumption | with_reducible exact rs_sl | with_reducible exact rs_pt0 | exact rs_none | apply Rs.left)) (by first | assumption | exact bys_at (by omega) | exact ints_at (by omega) | exact wds_at (by omega) | exact bos_at (by omega) | rfl)) ?_
                  have ex0 : vs69[0] = .slice ax (ctS q P.s)[0].length cx := by rw [List.getElem?_eq_getElem (by omega)] at hx0; exact Option.some.inj hx0
                  have ey0 : vs75[0] = .slice ay (ctS q P.s)[0].length cy := by rw [List.getElem?_eq_getElem (by omega)] at hy0; exact Option.some.inj hy0
                  have ez0 : vs69[(ctS q P.s).length - 1] = .slice az (ctS q P.s)[(ctS q P.s).length - 1].length cz := by rw [List.getElem?_eq_getElem (by omega)] at hz0; exact Option.some.inj hz0
                  refine th_one (i := 16) (by kernel_rfl) ?_
                  refine oh_x (i := 16) (listed' := #[true, true, true, true, true, true, true, true, true, true, true, true, true, true, true, true, true, false]) rfl rfl rfl (o_buildSliceL (vs := [.slice a51 64 c51, .slice a61 64 c61, .slice a80 (P.s.ls.length * 64) c80, .slice a85 (P.s.ls.length * 64) c85, .slice ax (ctS q P.s)[0].length cx, .slice ay (ctS q P.s)[0].length cy, .slice az (ctS q P.s)[(ctS q P.s).length - 1].length cz]) (l := [.slice a51 64 c51, .slice a61 64 c61, .slice a80 (P.s.ls.length * 64) c80, .slice a85 (P.s.ls.length * 64) c85, .slice ax (ctS q P.s)[0].length cx, .slice ay (ctS q P.s)[0].length cy, .slice az (ctS q P.s)[(ctS q P.s).length - 1].length cz]) Try.underlying33 sz28 z28 rfl rfl (by decide) (by decide) (by simp [Value.cells]) rfl) ?_
                  rintro _ _ ⟨b135, rfl, rfl⟩
                  refine ⟨by repeat (first | with_reducible exact dr_refl | apply dr_keep | apply dr_drop), ?_⟩
                  refine th_take (i := 17) (listed' := #[true, true, true, true, true, true, true, true, true, true, true, true, true, true, true, true, true, true]) rfl (by kernel_rfl) (by kernel_rfl) (by kernel_rfl) rfl rfl (o_assign (by conv => lhs; whnf)) ?_
                  refine th_done (by kernel_rfl) ?_
                  refine q_then_n ?_
                  refine tc_seq ?_
                  refine tc_seq ?_
                  refine tc_reg ?_
                  refine tl_v rfl (o_move (by conv => lhs; whnf)) ?_
                  refine tl_v rfl (o_len Try.underlying33 rfl) ?_
                  refine tl_v rfl (o_eqi rfl rfl) ?_
                  refine tl_nil ?_
                  refine q_then_n ?_
                  refine tc_cut (fun ρ BB => ∃ (mm : Nat) (vsA : List Value) (lsA : List (List Nat)), (lsA.length = mm) ∧ (mm ≤ 7) ∧ (∀ l ∈ lsA, l.length ≤ 137438953472) ∧ ρ 19 = .slice (some ⟨b135, 0, none⟩) mm 7 ∧ ρ 7 = .pointer (some ⟨p27, 0, none⟩) ∧ ρ 9 = .pointer (some ⟨d43, 0, none⟩) ∧ ρ 18 = .slice a118 (P.s.ls.length * 64) c118 ∧ BB = F * PlD p27 d27 sv27 hv27 lv27 uv27 (.slice am P.marks.length cm) hvs27 P * Dev d27 P.s * Dev d43 P.s * Sl 1 (.slice a118 (P.s.ls.length * 64) c118) (P.s.ls.length * 64) (bys (imgS P.s)) * Parts vsA lsA * Sl 1 (.slice (some ⟨b135, 0, none⟩) mm 7) mm vsA) ?_ ?_
                  · skip
                    refine tc_cond rfl (fun h => ?_) (fun h => ?_)
                    · try simp only [decide_eq_true_eq] at h
                      have hlens : ∀ l ∈ [(((imgS P.s).drop (64 * q)).take 64), (((imgS P.s).drop (64 * q)).take 64), imgS P.s, imgS P.s, (ctS q P.s)[0], (ctS q P.s)[0]], l.length ≤ 137438953472 := by
                          have h0 := hc64 _ (List.getElem_mem hK)
                          intro l hl
                          simp only [List.mem_cons, List.not_mem_nil, or_false] at hl
                          rcases hl with rfl | rfl | rfl | rfl | rfl | rfl <;> omega
                      refine tc_pre (fun _ _ h => fresh6 (vs := vs69) (ws := vs75) (C := ctS q P.s) hW hil hv69 hv75 hK (h.perm (show _ = F * PlD p27 d27 sv27 hv27 lv27 uv27 (.slice am P.marks.length cm) hvs27 P * Dev d27 P.s * Dev d43 P.s * Sl 1 (.slice a118 (P.s.ls.length * 64) c118) (P.s.ls.length * 64) (bys (imgS P.s)) * Sl 1 (.slice a51 64 c51) 64 (bys (((imgS P.s).drop (64 * q)).take 64)) * Sl 1 (.slice a61 64 c61) 64 (bys (((imgS P.s).drop (64 * q)).take 64)) * Sl 1 (.slice a80 (P.s.ls.length * 64) c80) (P.s.ls.length * 64) (bys (imgS P.s)) * Sl 1 (.slice a85 (P.s.ls.length * 64) c85) (P.s.ls.length * 64) (bys (imgS P.s)) * Parts vs69 (ctS q P.s) * Parts vs75 (ctS q P.s) * pt b135 (cl [.slice a51 64 c51, .slice a61 64 c61, .slice a80 (P.s.ls.length * 64) c80, .slice a85 (P.s.ls.length * 64) c85, vs69[0], vs75[0], vs69[(ctS q P.s).length - 1]] 28) * (Sl 1 (.slice a69 (ctS q P.s).length c69) (ctS q P.s).length vs69 * Sl 1 (.slice a75 (ctS q P.s).length c75) (ctS q P.s).length vs75) by rw [ex0, ey0, ez0]; ac_rfl)).left) ?_
                      refine tc_reg ?_
                      refine tl_v rfl (o_move (by conv => lhs; whnf)) ?_
                      refine tl_v rfl (o_slice Try.underlying33 sz28 rfl bnd_none (bnd_nat (r := 6) rfl) (by omega) (by omega)) ?_
                      refine tl_v rfl (o_assign (by conv => lhs; whnf)) ?_
                      refine tl_nil ?_
                      exact ⟨_, _, _, rfl, by simp, hlens, rfl, rfl, rfl, rfl, rfl⟩
                    · try simp only [decide_eq_false_iff_not] at h
                      have h2 : 2 ≤ (ctS q P.s).length := by omega
                      have hlens : ∀ l ∈ [(((imgS P.s).drop (64 * q)).take 64), (((imgS P.s).drop (64 * q)).take 64), imgS P.s, imgS P.s, (ctS q P.s)[0], (ctS q P.s)[0], (ctS q P.s)[(ctS q P.s).length - 1]], l.length ≤ 137438953472 := by
                          have h0 := hc64 _ (List.getElem_mem hK)
                          have h1 := hc64 _ (List.getElem_mem hK1)
                          intro l hl
                          simp only [List.mem_cons, List.not_mem_nil, or_false] at hl
                          rcases hl with rfl | rfl | rfl | rfl | rfl | rfl | rfl <;> omega
                      refine tc_pre (fun _ _ h => fresh7 (vs := vs69) (ws := vs75) (C := ctS q P.s) hW hil hv69 hv75 h2 (h.perm (show _ = F * PlD p27 d27 sv27 hv27 lv27 uv27 (.slice am P.marks.length cm) hvs27 P * Dev d27 P.s * Dev d43 P.s * Sl 1 (.slice a118 (P.s.ls.length * 64) c118) (P.s.ls.length * 64) (bys (imgS P.s)) * Sl 1 (.slice a51 64 c51) 64 (bys (((imgS P.s).drop (64 * q)).take 64)) * Sl 1 (.slice a61 64 c61) 64 (bys (((imgS P.s).drop (64 * q)).take 64)) * Sl 1 (.slice a80 (P.s.ls.length * 64) c80) (P.s.ls.length * 64) (bys (imgS P.s)) * Sl 1 (.slice a85 (P.s.ls.length * 64) c85) (P.s.ls.length * 64) (bys (imgS P.s)) * Parts vs69 (ctS q P.s) * Parts vs75 (ctS q P.s) * pt b135 (cl [.slice a51 64 c51, .slice a61 64 c61, .slice a80 (P.s.ls.length * 64) c80, .slice a85 (P.s.ls.length * 64) c85, vs69[0], vs75[0], vs69[(ctS q P.s).length - 1]] 28) * (Sl 1 (.slice a69 (ctS q P.s).length c69) (ctS q P.s).length vs69 * Sl 1 (.slice a75 (ctS q P.s).length c75) (ctS q P.s).length vs75) by rw [ex0, ey0, ez0]; ac_rfl)).left) ?_
                      refine tc_skip ?_
                      exact ⟨_, _, _, rfl, by simp, hlens, rfl, rfl, rfl, rfl, rfl⟩
                  · intro ρ B hI
                    obtain ⟨mm, vsA, lsA, hj0, hj1, hj2, hE19, hE7, hE9, hE18, rfl⟩ := hI
                    refine q_then_n ?_
                    refine tc_env (d := 19) hE19 ?_
                    refine tc_env (d := 7) hE7 ?_
                    refine tc_env (d := 9) hE9 ?_
                    refine tc_env (d := 18) hE18 ?_
                    clear hE19 hE7 hE9 hE18
                    refine tc_seq ?_
                    refine tc_seq ?_
                    refine tc_reg ?_
                    refine tl_v rfl (o_move (by conv => lhs; whnf)) ?_
                    refine tl_c rfl (o_call bd23 rfl (Apart_c lsA hj0 (by omega) hj2)) ?_
                    rintro _ _ ⟨rfl, rfl⟩
                    refine tl_v rfl (o_not rfl) ?_
                    refine tl_v rfl (o_move (by conv => lhs; whnf)) ?_
                    refine tl_bool (d := 144) rfl (fun h => ?_) (fun h => ?_)
                    · (exfalso; first | (revert h; simp; done) | (simp at h; done) | (revert h; simp; omega) | (simp at h; omega) | omega)
                    · try simp only [decide_eq_true_eq, decide_eq_false_iff_not, Bool.not_eq_true', Bool.not_eq_false', Option.isNone_some, Option.isNone_none, Bool.not_true, Bool.not_false] at h
                      refine tl_v rfl (o_move (by conv => lhs; whnf)) ?_
                      refine tl_v rfl (o_nilCheck rfl) ?_
                      refine tl_v rfl (o_fieldAddr (o := 0) Try.underlying46 rfl rfl sz41 rfl) ?_
                      refine tl_v rfl (o_load p41 rfl (by repeat (first | with_reducible exact plD_p | apply has_left)) rfl) ?_
                      refine tl_c rfl (o_call bd33 rfl (Image_c)) ?_
                      rintro _ _ ⟨a149, c149, rfl, hc149, rfl⟩
                      refine tl_v rfl (o_move (by conv => lhs; whnf)) ?_
                      refine tl_c rfl (o_call bd22 rfl (EqBytes_c (xs := imgS P.s) (ys := imgS P.s) (hx := hil) (hy := hil))) ?_
                      rintro _ _ ⟨rfl, rfl⟩
                      refine tl_v rfl (o_not rfl) ?_
                      refine tl_v rfl (o_pick_f rfl (by conv => lhs; whnf)) ?_
                      refine tl_v rfl (o_move (by conv => lhs; whnf)) ?_
                      refine tl_bool (d := 154) rfl (fun h => ?_) (fun h => ?_)
                      · (exfalso; first | (revert h; simp; done) | (simp at h; done) | (revert h; simp; omega) | (simp at h; omega) | omega)
                      · try simp only [decide_eq_true_eq, decide_eq_false_iff_not, Bool.not_eq_true', Bool.not_eq_false', Option.isNone_some, Option.isNone_none, Bool.not_true, Bool.not_false] at h
                        refine tl_v rfl (o_move (by conv => lhs; whnf)) ?_
                        refine tl_c rfl (o_call bd33 rfl (Image_c)) ?_
                        rintro _ _ ⟨a156, c156, rfl, hc156, rfl⟩
                        refine tl_v rfl (o_move (by conv => lhs; whnf)) ?_
                        refine tl_c rfl (o_call bd22 rfl (EqBytes_c (xs := imgS P.s) (ys := imgS P.s) (hx := hil) (hy := hil))) ?_
                        rintro _ _ ⟨rfl, rfl⟩
                        refine tl_v rfl (o_not rfl) ?_
                        refine tl_v rfl (o_pick_f rfl (by conv => lhs; whnf)) ?_
                        refine tl_nil ?_
                        refine q_then_n ?_
                        refine tc_cond rfl (fun h => ?_) (fun h => ?_)
                        · (exfalso; first | (revert h; simp; done) | (simp at h; done) | (revert h; simp; omega) | (simp at h; omega) | omega)
                        · try simp only [decide_eq_true_eq, decide_eq_false_iff_not, Bool.not_eq_true', Bool.not_eq_false', Option.isNone_some, Option.isNone_none, Bool.not_true, Bool.not_false] at h
                          refine tc_skip ?_
                          refine q_then_n ?_
                          refine tc_seq ?_
                          refine tc_seq ?_
                          refine tc_reg ?_
                          refine tl_v rfl (o_move (by conv => lhs; whnf)) ?_
                          refine tl_c rfl (o_call bd40 rfl (Store8_c (p := 0) (v := 99))) ?_
                          rintro _ _ ⟨e162, s162, hs162, rfl, rfl⟩
                          obtain ⟨he1, hi1, hl1, ho1⟩ := st8_img (w := 0) hs162 rfl hw hLv (by omega) (by omega) hroom
                          subst he1
                          refine tl_v rfl (o_nei rfl rfl) ?_
                          refine tl_v rfl (o_move (by conv => lhs; whnf)) ?_
                          refine tl_bool (d := 164) rfl (fun h => ?_) (fun h => ?_)
                          · (exfalso; first | (revert h; simp; done) | (simp at h; done) | (revert h; simp; omega) | (simp at h; omega) | omega)
                          · try simp only [decide_eq_true_eq, decide_eq_false_iff_not, Bool.not_eq_true', Bool.not_eq_false', Option.isNone_some, Option.isNone_none, Bool.not_true, Bool.not_false] at h
                            refine tl_v rfl (o_move (by conv => lhs; whnf)) ?_
                            refine tl_v rfl (o_nilCheck rfl) ?_
                            refine tl_v rfl (o_fieldAddr (o := 0) Try.underlying46 rfl rfl sz41 rfl) ?_
                            refine tl_v rfl (o_load p41 rfl (by repeat (first | with_reducible exact plD_p | apply has_left)) rfl) ?_
                            refine tl_c rfl (o_call bd40 rfl (Store8_c (p := 8) (v := 77))) ?_
                            rintro _ _ ⟨e169, s169, hs169, rfl, rfl⟩
                            obtain ⟨he2, hi2, hl2, ho2⟩ := st8_img (w := 1) hs169 rfl hw hLv (by omega) (by omega) hroom
                            subst he2
                            refine tl_v rfl (o_nei rfl rfl) ?_
                            refine tl_v rfl (o_pick_f rfl (by conv => lhs; whnf)) ?_
                            refine tl_nil ?_
                            refine q_then_n ?_
                            refine tc_cond rfl (fun h => ?_) (fun h => ?_)
                            · (exfalso; first | (revert h; simp; done) | (simp at h; done) | (revert h; simp; omega) | (simp at h; omega) | omega)
                            · try simp only [decide_eq_true_eq, decide_eq_false_iff_not, Bool.not_eq_true', Bool.not_eq_false', Option.isNone_some, Option.isNone_none, Bool.not_true, Bool.not_false] at h
                              refine tc_skip ?_
                              refine q_then_n ?_
                              refine tc_seq ?_
                              refine tc_reg ?_
                              refine tl_v rfl (o_move (by conv => lhs; whnf)) ?_
                              refine tl_v rfl (o_nilCheck rfl) ?_
                              refine tl_v rfl (o_fieldAddr (o := 0) Try.underlying46 rfl rfl sz41 rfl) ?_
                              refine tl_v rfl (o_load p41 rfl (by repeat (first | with_reducible exact plD_p | apply has_left)) rfl) ?_
                              refine tl_c rfl (o_call bd33 rfl (Image_c)) ?_
                              rintro _ _ ⟨a176, c176, rfl, hc176, rfl⟩
                              refine tl_v rfl (o_move (by conv => lhs; whnf)) ?_
                              refine tl_c rfl (o_call bd33 rfl (Image_c)) ?_
                              rintro _ _ ⟨a178, c178, rfl, hc178, rfl⟩
                              refine tl_v rfl (o_assign (by conv => lhs; whnf)) ?_
                              refine tl_v rfl (o_assign (by conv => lhs; whnf)) ?_
                              refine tl_nil ?_
                              refine q_then_n ?_
                              refine tc_seq ?_
                              have hA1 : (imgS s169).length = s169.ls.length * 64 := by rw [hi2, spl_length (by rw [le_length]; omega), hil, hl2]
                              have hA2 : (imgS s162).length = s162.ls.length * 64 := by rw [hi1, spl_length (by rw [le_length]; omega), hil, hl1]
                              have hb0 : ∀ x ∈ imgS P.s, x < 256 := img_bytes
                              have hb1 : ∀ x ∈ imgS s169, x < 256 := img_bytes
                              have hb2 : ∀ x ∈ imgS s162, x < 256 := img_bytes
                              have hd0 : ∀ x ∈ (imgS P.s).drop 8, x < 256 := fun x hx => hb0 x (List.mem_of_mem_drop hx)
                              have hd1 : ∀ x ∈ (imgS s169).drop 8, x < 256 := fun x hx => hb1 x (List.mem_of_mem_drop hx)
                              have hd2 : ∀ x ∈ (imgS s162).drop 8, x < 256 := fun x hx => hb2 x (List.mem_of_mem_drop hx)
                              have f1 : (imgS s169).take 8 = (imgS P.s).take 8 := by rw [hi2, spl_take_le (by rw [le_length]; omega) (by omega)]
                              have f2 : ((imgS s169).drop 8).take 8 = le 8 77 := by rw [hi2]; have := spl_mid (l := imgS P.s) (b := le 8 77) (p := 8) (by rw [le_length]; omega); rwa [le_length] at this
                              have f3 : (imgS s162).take 8 = le 8 99 := by rw [hi1]; have := spl_mid (l := imgS P.s) (b := le 8 99) (p := 0) (by rw [le_length]; omega); rwa [le_length, List.drop_zero] at this
                              have f4 : (imgS s162).drop 8 = (imgS P.s).drop 8 := by rw [hi1, spl_drop_ge (by rw [le_length]; omega) (by rw [le_length]; omega)]
                              refine tc_regq mo (by kernel_rfl) ?_
                              refine ql_v rfl (o_move (by conv => lhs; whnf)) ?_
                              refine ql_c rfl (fun w => exec_call bd34 rfl) (number_c (xs := imgS s169) (hm := hA1)) ?_
                              refine ql_v rfl (o_move (by conv => lhs; whnf)) ?_
                              refine ql_c rfl (fun w => exec_call bd34 rfl) (number_c (xs := imgS P.s) (hm := hil)) ?_
                              refine ql_v rfl (o_eqi rfl rfl) ?_
                              refine ql_v rfl (o_move (by conv => lhs; whnf)) ?_
                              refine ql_bool (d := 184) rfl (fun h => ?_) (fun h => ?_)
                              · try simp only [decide_eq_true_eq, decide_eq_false_iff_not, Bool.not_eq_true', Bool.not_eq_false', Option.isNone_some, Option.isNone_none, Bool.not_true, Bool.not_false] at h
                                refine ql_v rfl (o_move (by conv => lhs; whnf)) ?_
                                refine ql_v rfl (o_slice Try.underlying28 sz5 rfl (bnd_nat (r := 8) rfl) bnd_none (by omega) (by omega)) ?_
                                refine ql_c rfl (fun w => exec_call bd34 rfl) (number_c (xs := (imgS s169).drop 8) (hr := rs_cutB (by repeat (first | assumption | with_reducible exact rs_sl | with_reducible exact rs_pt0 | exact rs_none | apply Rs.left)) (by omega)) (hm := by rw [List.length_drop]; omega)) ?_
                                refine ql_v rfl (o_eqi rfl rfl) ?_
                                refine ql_v rfl (o_pick_t rfl (by conv => lhs; whnf)) ?_
                                refine ql_v rfl (o_move (by conv => lhs; whnf)) ?_
                                refine ql_bool (d := 190) rfl (fun h => ?_) (fun h => ?_)
                                · try simp only [decide_eq_true_eq, decide_eq_false_iff_not, Bool.not_eq_true', Bool.not_eq_false', Option.isNone_some, Option.isNone_none, Bool.not_true, Bool.not_false] at h
                                  refine ql_v rfl (o_move (by conv => lhs; whnf)) ?_
                                  refine ql_c rfl (fun w => exec_call bd34 rfl) (number_c (xs := imgS s162) (hm := hA2)) ?_
                                  refine ql_v rfl (o_eqi rfl rfl) ?_
                                  refine ql_v rfl (o_pick_t rfl (by conv => lhs; whnf)) ?_
                                  refine ql_v rfl (o_move (by conv => lhs; whnf)) ?_
                                  refine ql_bool (d := 195) rfl (fun h => ?_) (fun h => ?_)
                                  · try simp only [decide_eq_true_eq, decide_eq_false_iff_not, Bool.not_eq_true', Bool.not_eq_false', Option.isNone_some, Option.isNone_none, Bool.not_true, Bool.not_false] at h
                                    refine ql_v rfl (o_move (by conv => lhs; whnf)) ?_
                                    refine ql_v rfl (o_slice Try.underlying28 sz5 rfl (bnd_nat (r := 8) rfl) bnd_none (by omega) (by omega)) ?_
                                    refine ql_c rfl (fun w => exec_call bd34 rfl) (number_c (xs := (imgS s162).drop 8) (hr := rs_cutB (by repeat (first | assumption | with_reducible exact rs_sl | with_reducible exact rs_pt0 | exact rs_none | apply Rs.left)) (by omega)) (hm := by rw [List.length_drop]; omega)) ?_
                                    refine ql_v rfl (o_move (by conv => lhs; whnf)) ?_
                                    refine ql_v rfl (o_slice Try.underlying28 sz5 rfl (bnd_nat (r := 8) rfl) bnd_none (by omega) (by omega)) ?_
                                    refine ql_c rfl (fun w => exec_call bd34 rfl) (number_c (xs := (imgS P.s).drop 8) (hr := rs_cutB (by repeat (first | assumption | with_reducible exact rs_sl | with_reducible exact rs_pt0 | exact rs_none | apply Rs.left)) (by omega)) (hm := by rw [List.length_drop]; omega)) ?_
                                    refine ql_v rfl (o_eqi rfl rfl) ?_
                                    refine ql_v rfl (o_pick_t rfl (by conv => lhs; whnf)) ?_
                                    refine ql_v rfl (o_move (by conv => lhs; whnf)) ?_
                                    refine ql_bool (d := 204) rfl (fun h => ?_) (fun h => ?_)
                                    · try simp only [decide_eq_true_eq, decide_eq_false_iff_not, Bool.not_eq_true', Bool.not_eq_false', Option.isNone_some, Option.isNone_none, Bool.not_true, Bool.not_false] at h
                                      refine ql_v rfl (o_move (by conv => lhs; whnf)) ?_
                                      refine ql_c rfl (fun w => exec_call bd41 rfl) (Ops_c) ?_
                                      refine ql_v rfl (o_move (by conv => lhs; whnf)) ?_
                                      refine ql_v rfl (o_nilCheck rfl) ?_
                                      refine ql_v rfl (o_fieldAddr (o := 0) Try.underlying46 rfl rfl sz41 rfl) ?_
                                      refine ql_v rfl (o_load p41 rfl (by repeat (first | with_reducible exact plD_p | apply has_left)) rfl) ?_
                                      refine ql_c rfl (fun w => exec_call bd41 rfl) (Ops_c) ?_
                                      refine ql_v rfl (o_eqi rfl rfl) ?_
                                      refine ql_v rfl (o_pick_t rfl (by conv => lhs; whnf)) ?_
                                      refine ql_v rfl (o_assign (by conv => lhs; whnf)) ?_
                                      refine ql_nil ?_
                                      refine q_then_n ?_
                                      refine tc_ret ?_
                                      exact ⟨.bool (decide (s162.ops = s169.ops)), F, res1 rfl rfl, Dr.sat (by repeat (first | with_reducible exact dr_refl | apply dr_keep | apply dr_drop)), by rw [ho1, ho2]; simp, rfl⟩
                                    · exfalso; simp [f4] at h
                                  · exfalso; rw [f3, le_num 99 (by omega)] at h; simp at h
                                · exfalso; rw [f2, le_num 77 (by omega)] at h; simp at h
                              · exfalso; simp [f1] at h


theorem PmemFresh_L (F : SP) (v0 : Value) (lines : Int) (h0 : PInt .i64 [v0] lines) (v1 : Value) (ss : List StepC) (h1 : PSteps F [v1] ss) (v2 : Value) (k0 : Int) (h2 : PInt .i64 [v2] k0) : Fn Try.prog 6 #[v0, v1, v2] F (fun r B => r = .bool true ∧ B = F) := by
  obtain ⟨e0, _⟩ := h0
  obtain ⟨a, cap, e1, hc1, hl1, hr1, hv1⟩ := h1
  obtain ⟨e2, _⟩ := h2
  simp only [List.cons.injEq, and_true] at e0 e1 e2
  subst e0 e1 e2
  exact PmemFreshW_f F lines k0 a cap _ ss _ rfl rfl hr1 hv1 (by omega)

end Go.Vl
