/- Walks of package pmem: Clone, low, Arm, Copy. Conditions: none. -/
import Derived.Test.YtimckjnnjakcoaaP2
set_option linter.unusedVariables false
set_option linter.unusedSimpArgs false
namespace Go.Vl
open Go Go.Proofs

theorem CloneIN_f {A : SP} {n c : Nat} :
    Fn Try.prog 100 #[.slice none n c] (A) (fun r B => r = .slice none 0 0 ∧ A = B) := by
  refine fn_enterW (args := [.slice none n c]) Try.func100 rfl Try.ntmps100 (by simp) ?_
  refine tc_seq ?_
  refine tc_reg ?_
  refine tl_v rfl (o_assign (by conv => lhs; whnf)) ?_
  refine tl_nil ?_
  refine q_then_n ?_
  refine tc_seq ?_
  refine tc_seq ?_
  refine tc_reg ?_
  refine tl_v rfl (o_move (by conv => lhs; whnf)) ?_
  refine tl_v rfl (o_eqs Try.underlying37 rfl rfl) ?_
  refine tl_nil ?_
  refine q_then_n ?_
  refine tc_cond rfl (fun h => ?_) (fun h => ?_)
  · try simp only [decide_eq_true_eq, decide_eq_false_iff_not, Bool.not_eq_true', Bool.not_eq_false', Option.isNone_some, Option.isNone_none, Bool.not_true, Bool.not_false] at h
    refine tc_seq ?_
    refine tc_reg ?_
    refine tl_v rfl (o_assign (by conv => lhs; whnf)) ?_
    refine tl_nil ?_
    refine q_then_n ?_
    refine tc_ret ?_
    refine q_then_r ?_
    exact ⟨_, _, res1 rfl rfl, fun _ _ h => h, rfl, rfl⟩
  · (exfalso; first | (revert h; simp; done) | (simp at h; done) | (revert h; simp; omega) | (simp at h; omega) | omega)


theorem CloneI_c {A : SP} {a : Option Addr} {n c : Nat} {xs : List Value} (hr : Rs A a xs := by repeat (first | assumption | with_reducible exact rs_sl | with_reducible exact rs_pt0 | exact rs_none | apply Rs.left)) (hl : xs.length = n * 1 := by first | assumption | (simp only [ints_length]; omega)) (ho : xs.all oneC = true := by first | exact bys_all _ | exact ints_all _ | exact wds_all _ | exact bos_all _ | rfl) (hs : n * 8 ≤ 140737488355328 := by omega) :
    Fn Try.prog 100 #[.slice a n c] A (fun r B => ∃ a' c', r = .slice a' n c' ∧ n ≤ c' ∧ B = A * Sl 1 (.slice a' n c') n xs) := by
  refine fn_rs hr fun hr => ?_
  cases a with
  | none =>
    have hx : xs = [] := by
      rcases hr with h | ⟨b, o, e, _⟩
      · exact h
      · cases e
    subst hx
    have hn : n = 0 := by simp at hl; omega
    subst hn
    intro g w hs
    refine (CloneIN_f (n := 0) (c := c) g w hs).mono ?_
    rintro e w' ⟨v, B, rfl, ⟨rfl, rfl⟩, hB⟩
    exact ⟨_, _, rfl, ⟨none, 0, rfl, Nat.le_refl _, rfl⟩, sl_nil hB⟩
  | some p => exact fn_sl (CloneI_f A n c xs p hr hl ho hs)

theorem CloneSN_f {A : SP} {n c : Nat} :
    Fn Try.prog 95 #[.slice none n c] (A) (fun r B => r = .slice none 0 0 ∧ A = B) := by
  refine fn_enterW (args := [.slice none n c]) Try.func95 rfl Try.ntmps95 (by simp) ?_
  refine tc_seq ?_
  refine tc_reg ?_
  refine tl_v rfl (o_assign (by conv => lhs; whnf)) ?_
  refine tl_nil ?_
  refine q_then_n ?_
  refine tc_seq ?_
  refine tc_seq ?_
  refine tc_reg ?_
  refine tl_v rfl (o_move (by conv => lhs; whnf)) ?_
  refine tl_v rfl (o_eqs Try.underlying148 rfl rfl) ?_
  refine tl_nil ?_
  refine q_then_n ?_
  refine tc_cond rfl (fun h => ?_) (fun h => ?_)
  · try simp only [decide_eq_true_eq, decide_eq_false_iff_not, Bool.not_eq_true', Bool.not_eq_false', Option.isNone_some, Option.isNone_none, Bool.not_true, Bool.not_false] at h
    refine tc_seq ?_
    refine tc_reg ?_
    refine tl_v rfl (o_assign (by conv => lhs; whnf)) ?_
    refine tl_nil ?_
    refine q_then_n ?_
    refine tc_ret ?_
    refine q_then_r ?_
    exact ⟨_, _, res1 rfl rfl, fun _ _ h => h, rfl, rfl⟩
  · (exfalso; first | (revert h; simp; done) | (simp at h; done) | (revert h; simp; omega) | (simp at h; omega) | omega)


theorem CloneS_c {A : SP} {a : Option Addr} {n c : Nat} {xs : List Value} (hr : Rs A a xs := by repeat (first | assumption | with_reducible exact rs_sl | with_reducible exact rs_pt0 | exact rs_none | apply Rs.left)) (hl : xs.length = n * 8 := by first | assumption | (simp only [ints_length]; omega)) (ho : xs.all oneC = true := by first | exact bys_all _ | exact ints_all _ | exact wds_all _ | exact bos_all _ | rfl) (hs : n * 64 ≤ 140737488355328 := by omega) :
    Fn Try.prog 95 #[.slice a n c] A (fun r B => ∃ a' c', r = .slice a' n c' ∧ n ≤ c' ∧ B = A * Sl 8 (.slice a' n c') n xs) := by
  refine fn_rs hr fun hr => ?_
  cases a with
  | none =>
    have hx : xs = [] := by
      rcases hr with h | ⟨b, o, e, _⟩
      · exact h
      · cases e
    subst hx
    have hn : n = 0 := by simp at hl; omega
    subst hn
    intro g w hs
    refine (CloneSN_f (n := 0) (c := c) g w hs).mono ?_
    rintro e w' ⟨v, B, rfl, ⟨rfl, rfl⟩, hB⟩
    exact ⟨_, _, rfl, ⟨none, 0, rfl, Nat.le_refl _, rfl⟩, sl_nil hB⟩
  | some p => exact fn_sl (CloneS_f A n c xs p hr hl ho hs)

theorem CloneAN_f {A : SP} {n c : Nat} :
    Fn Try.prog 96 #[.slice none n c] (A) (fun r B => r = .slice none 0 0 ∧ A = B) := by
  refine fn_enterW (args := [.slice none n c]) Try.func96 rfl Try.ntmps96 (by simp) ?_
  refine tc_seq ?_
  refine tc_reg ?_
  refine tl_v rfl (o_assign (by conv => lhs; whnf)) ?_
  refine tl_nil ?_
  refine q_then_n ?_
  refine tc_seq ?_
  refine tc_seq ?_
  refine tc_reg ?_
  refine tl_v rfl (o_move (by conv => lhs; whnf)) ?_
  refine tl_v rfl (o_eqs Try.underlying74 rfl rfl) ?_
  refine tl_nil ?_
  refine q_then_n ?_
  refine tc_cond rfl (fun h => ?_) (fun h => ?_)
  · try simp only [decide_eq_true_eq, decide_eq_false_iff_not, Bool.not_eq_true', Bool.not_eq_false', Option.isNone_some, Option.isNone_none, Bool.not_true, Bool.not_false] at h
    refine tc_seq ?_
    refine tc_reg ?_
    refine tl_v rfl (o_assign (by conv => lhs; whnf)) ?_
    refine tl_nil ?_
    refine q_then_n ?_
    refine tc_ret ?_
    refine q_then_r ?_
    exact ⟨_, _, res1 rfl rfl, fun _ _ h => h, rfl, rfl⟩
  · (exfalso; first | (revert h; simp; done) | (simp at h; done) | (revert h; simp; omega) | (simp at h; omega) | omega)


theorem CloneA_c {A : SP} {a : Option Addr} {n c : Nat} {xs : List Value} (hr : Rs A a xs := by repeat (first | assumption | with_reducible exact rs_sl | with_reducible exact rs_pt0 | exact rs_none | apply Rs.left)) (hl : xs.length = n * 2 := by first | assumption | (simp only [ints_length]; omega)) (ho : xs.all oneC = true := by first | exact bys_all _ | exact ints_all _ | exact wds_all _ | exact bos_all _ | rfl) (hs : n * 32 ≤ 140737488355328 := by omega) :
    Fn Try.prog 96 #[.slice a n c] A (fun r B => ∃ a' c', r = .slice a' n c' ∧ n ≤ c' ∧ B = A * Sl 2 (.slice a' n c') n xs) := by
  refine fn_rs hr fun hr => ?_
  cases a with
  | none =>
    have hx : xs = [] := by
      rcases hr with h | ⟨b, o, e, _⟩
      · exact h
      · cases e
    subst hx
    have hn : n = 0 := by simp at hl; omega
    subst hn
    intro g w hs
    refine (CloneAN_f (n := 0) (c := c) g w hs).mono ?_
    rintro e w' ⟨v, B, rfl, ⟨rfl, rfl⟩, hB⟩
    exact ⟨_, _, rfl, ⟨none, 0, rfl, Nat.le_refl _, rfl⟩, sl_nil hB⟩
  | some p => exact fn_sl (CloneA_f A n c xs p hr hl ho hs)


theorem low_c {A : SP} {a : Option Addr} {c m : Nat} {xs : List Int} (hr : Rs A a (ints xs) := by repeat (first | assumption | with_reducible exact rs_sl | with_reducible exact rs_pt0 | exact rs_none | apply Rs.left)) (hm : xs.length = m := by first | assumption | rfl) (hl : m ≤ 1099511627776000 := by omega) : Fn Try.prog 91 #[.slice a m c] A (fun r B => r = .bool (lowB xs) ∧ A = B) := by
  subst hm; exact fn_rs hr fun hr => low_f A a c xs hr hl


/-- Arms, to be read. -/
structure RdA (A : SP) (a : Option Addr) (kvs : List Value) (ars : List (Int × List Int)) : Prop where
  rd : Rs A a (acs kvs ars)
  len : kvs.length = ars.length
  keep : ∀ i (h : i < ars.length), ∃ b c, kvs[i]? = some (.slice b ars[i].2.length c) ∧ ars[i].2.length ≤ c ∧ Rs A b (ints ars[i].2)
theorem RdA.left {A X : SP} {a : Option Addr} {kvs : List Value} {ars : List (Int × List Int)} (h : RdA A a kvs ars) : RdA (A * X) a kvs ars :=
  ⟨h.rd.left, h.len, fun i hi => by obtain ⟨b, c, e, hc, hr⟩ := h.keep i hi; exact ⟨b, c, e, hc, hr.left⟩⟩
theorem acs_length : ∀ {kvs : List Value} {ars : List (Int × List Int)}, kvs.length = ars.length → (acs kvs ars).length = ars.length * 2
  | [], [], _ => rfl
  | v :: vs, a :: ar, h => by simp only [acs, List.length_cons] at *; rw [acs_length (by omega)]; omega
theorem acs_at : ∀ {kvs : List Value} {ars : List (Int × List Int)} {i : Nat} (h : kvs.length = ars.length) (hi : i < ars.length), ((acs kvs ars).drop (i * 2)).take 2 = [.int .i64 ars[i].1, kvs[i]'(by omega)]
  | [], [], _, _, hi => by simp at hi
  | v :: vs, a :: ar, 0, _, _ => rfl
  | v :: vs, a :: ar, i + 1, h, hi => by
    rw [show (i + 1) * 2 = i * 2 + 1 + 1 by omega]
    show ((acs vs ar).drop (i * 2)).take 2 = _
    rw [acs_at (by simpa using h) (by simpa using hi)]; rfl
theorem acs_snoc : ∀ {kvs : List Value} {ars : List (Int × List Int)} {v : Value} {x : Int × List Int} (_ : kvs.length = ars.length), acs (kvs ++ [v]) (ars ++ [x]) = acs kvs ars ++ [.int .i64 x.1, v]
  | [], [], _, _, _ => rfl
  | u :: vs, y :: ar, v, x, h => by
    show _ :: u :: acs (vs ++ [v]) (ar ++ [x]) = _
    rw [acs_snoc (by simpa using h)]; rfl
theorem keepsR_snoc : ∀ {kvs : List Value} {ars : List (Int × List Int)} {v : Value} {x : Int × List Int} (_ : kvs.length = ars.length), KeepsR (kvs ++ [v]) (ars ++ [x]) = KeepsR kvs ars * SlR 1 v x.2.length (ints x.2)
  | [], [], _, _, _ => rfl
  | u :: vs, y :: ar, v, x, h => by
    show KeepsR (vs ++ [v]) (ar ++ [x]) * SlR 1 u y.2.length (ints y.2) = _
    rw [keepsR_snoc (by simpa using h)]
    show _ = KeepsR vs ar * SlR 1 u y.2.length (ints y.2) * SlR 1 v x.2.length (ints x.2)
    rw [star_swap]
theorem sl_share {k n : Nat} {v : Value} {xs : List Value} {R : SP} {g : Gh} {w : World} (hs : sat g w (R * Sl k v n xs)) : sat g w (R * SlR k v n xs) := by
  obtain ⟨hl, ⟨e1, e2, h⟩ | ⟨b, off, cap, l, E, e1, h1, h2, h3, h⟩⟩ := sl_iff.1 hs
  · obtain ⟨x, ha, hx⟩ := h.hp
    refine ⟨h.os, h.tape, h.out, x, ⟨x, fun _ => none, fun _ => .inr (.inl rfl), ?_, ha, hl, .inl ⟨e1, e2, rfl⟩⟩, hx⟩
    funext b; simp [Hp.un]
  · have h' := h.share
    obtain ⟨_, ⟨x, y, hd, rfl, ha, hb⟩, hx⟩ := h'.hp
    exact ⟨h'.os, h'.tape, h'.out, _, ⟨x, y, hd, rfl, ha, hl, .inr ⟨b, off, cap, l, E, e1, h1, h2, h3, hb⟩⟩, hx⟩
theorem devC_open {F : SP} {d bl : Nat} {svs kvs : List Value} {av : Value} {s : DevS} : F * DevC d bl svs av kvs s = F * KeepsR kvs s.arms * LinesR svs s.ls * pt bl (cl (lcs svs s.ls) 150) * pt d (cl (dcs bl s.ls.length s av) 97) * Sl 2 av s.arms.length (acs kvs s.arms) := by
  unfold DevC ArmsR; ac_rfl
theorem arm_back {F J : SP} {d bl : Nat} {svs kvs : List Value} {v av : Value} {x : Int × List Int} {s : DevS} (hw : WfD { s with arms := s.arms ++ [x] }) (hsv : svs.length = s.ls.length) (hkv : kvs.length = s.arms.length) {g : Gh} {w : World}
    (hs : sat g w (F * KeepsR kvs s.arms * LinesR svs s.ls * pt bl (cl (lcs svs s.ls) 150) * pt d (cl (dcs bl s.ls.length s av) 97) * Sl 1 v x.2.length (ints x.2) * Sl 2 av (s.arms.length + 1) (acs kvs s.arms ++ [.int .i64 x.1, v]) * J)) : sat g w (F * Dev d { s with arms := s.arms ++ [x] }) := by
  have h1 := hs.left
  rw [star_swap] at h1
  have h2 := sl_share h1
  refine dev_back (bl := bl) (svs := svs) (av := av) (kvs := kvs ++ [v]) hw hsv (by simp [hkv]) g w ?_
  rw [devC_open]
  simp only [acs_snoc hkv, keepsR_snoc hkv, List.length_append, List.length_singleton]
  exact h2.perm (by show _ = F * (KeepsR kvs s.arms * SlR 1 v x.2.length (ints x.2)) * LinesR svs s.ls * pt bl (cl (lcs svs s.ls) 150) * pt d (cl (dcs bl s.ls.length s av) 97) * Sl 2 av (s.arms.length + 1) (acs kvs s.arms ++ [.int .i64 x.1, v]); ac_rfl)
def badA (x : Int × List Int) : Bool := decide (x.1 < 1) || lowB x.2
/-- What Arm answers, and the device behind it. -/
def armS (ars : List (Int × List Int)) (s : DevS) : Int × DevS := if s.off then (5, s) else if ars.any badA then (2, s) else if 64 < ars.length + s.arms.length then (4, s) else (0, { s with arms := s.arms ++ ars })
theorem low_nn {l : List Int} (h : lowB l = false) : ∀ k ∈ l, 0 ≤ k := fun k hk => by
  unfold lowB at h
  rw [List.any_eq_false] at h
  have := h k hk
  simpa using this
theorem arm_wf {s : DevS} {ars : List (Int × List Int)} (hw : WfD s) (h : s.arms.length + ars.length ≤ 64) (hb : ars.any badA = false) (hk : ∀ x ∈ ars, x.1 ≤ 9223372036854775807 ∧ x.2.length ≤ 17592186044416 ∧ ∀ k ∈ x.2, k ≤ 9223372036854775807) : WfD { s with arms := s.arms ++ ars } := by
  rw [List.any_eq_false] at hb
  refine ⟨hw.pos, hw.top, hw.line, by simp; omega, fun x hx => ?_, fun x hx => ?_⟩
  · rcases List.mem_append.1 hx with h | h
    · exact hw.after x h
    · have := hb x h; simp [badA] at this
      exact ⟨by omega, (hk x h).1⟩
  · rcases List.mem_append.1 hx with h | h
    · exact hw.keeps x h
    · have := hb x h; simp [badA] at this
      exact ⟨(hk x h).2.1, fun k hm => ⟨low_nn this.2 k hm, (hk x h).2.2 k hm⟩⟩
theorem rdy00_t {n : Nat} {off : Bool} (h : rdy n off 0 0 ≠ 0) : off = true := by
  cases off with
  | true => rfl
  | false => rw [rdy00] at h; simp at h
theorem rdy00_f {n : Nat} {off : Bool} (h : rdy n off 0 0 = 0) : off = false := by
  cases off with
  | false => rfl
  | true => rw [rdy00] at h; simp at h
theorem any_take {α : Type} {p : α → Bool} {l : List α} {i : Nat} (h : (l.take i).any p = false) (hi : i < l.length) (hp : p l[i] = false) : (l.take (i + 1)).any p = false := by
  rw [List.take_succ_eq_append_getElem hi, List.any_append, h]; simp [hp]
theorem any_at {α : Type} {p : α → Bool} {l : List α} {i : Nat} (hi : i < l.length) (hp : p l[i] = true) : l.any p = true := by
  rw [List.any_eq_true]; exact ⟨l[i], List.getElem_mem hi, hp⟩

theorem ArmW_f (F : SP) {a : Option Addr} {c m d : Nat} {s : DevS} {kvs : List Value} {ars : List (Int × List Int)} (hr : RdA F a kvs ars) (hm : ars.length = m) (hl : m ≤ 17592186044416) (hk : ∀ x ∈ ars, (-9223372036854775808 ≤ x.1 ∧ x.1 ≤ 9223372036854775807) ∧ x.2.length ≤ 17592186044416 ∧ ∀ k ∈ x.2, k ≤ 9223372036854775807) :
    Fn Try.prog 44 #[.pointer (some ⟨d, 0, none⟩), .slice a m c] (F * Dev d s) (fun r B => r = .int .i64 (armS ars s).1 ∧ B = F * Dev d (armS ars s).2) := by
  refine fn_enterW (args := [.pointer (some ⟨d, 0, none⟩), .slice a m c]) Try.func44 rfl Try.ntmps44 (by simp) ?_
  refine tc_dev fun hw _ _ _ _ _ _ => ?_
  have hpos := hw.pos
  have htop := hw.top
  have ha64 := hw.arms
  refine tc_pre (dev_back hw ‹_› ‹_›) ?_
  have hrr : Rs F a (acs kvs ars) := hr.rd
  have hrl := acs_length hr.len
  refine tc_seq ?_
  refine tc_reg ?_
  refine tl_v rfl (o_assign (by conv => lhs; whnf)) ?_
  refine tl_nil ?_
  refine q_then_n ?_
  refine tc_seq ?_
  refine tc_seq ?_
  refine tc_reg ?_
  refine tl_v rfl (o_move (by conv => lhs; whnf)) ?_
  refine tl_c rfl (o_call bd88 rfl (ready_c)) ?_
  rintro _ _ ⟨rfl, rfl⟩
  refine tl_v rfl (o_assign (by conv => lhs; whnf)) ?_
  refine tl_nil ?_
  refine q_then_n ?_
  refine tc_seq ?_
  refine tc_reg ?_
  refine tl_v rfl (o_move (by conv => lhs; whnf)) ?_
  refine tl_v rfl (o_nei rfl rfl) ?_
  refine tl_nil ?_
  refine q_then_n ?_
  refine tc_cond rfl (fun h => ?_) (fun h => ?_)
  · have hoff := rdy00_t (by simpa using h)
    have hs : armS ars s = (5, s) := by unfold armS; rw [if_pos hoff]
    have hv : rdy s.ls.length s.off 0 0 = 5 := by rw [rdy00, if_pos hoff]
    refine tc_seq ?_
    refine tc_reg ?_
    refine tl_v rfl (o_move (by conv => lhs; whnf)) ?_
    refine tl_v rfl (o_assign (by conv => lhs; whnf)) ?_
    refine tl_nil ?_
    refine q_then_n ?_
    refine tc_ret ?_
    refine q_then_r ?_
    exact ⟨.int .i64 (rdy s.ls.length s.off 0 0), F * Dev d s, res1 rfl rfl, fun _ _ h => h, by rw [hs, hv], by rw [hs]⟩
  · have hoff := rdy00_f (by simpa using h)
    refine tc_skip ?_
    refine q_then_n ?_
    refine tc_seq ?_
    refine tc_seq ?_
    refine tc_reg ?_
    refine tl_v rfl (o_move (by conv => lhs; whnf)) ?_
    refine tl_v rfl (o_len Try.underlying74 rfl) ?_
    refine tl_v rfl (o_move (by conv => lhs; whnf)) ?_
    refine tl_nil ?_
    refine q_then_n ?_
    refine tc_block ?_
    refine tc_loop (fun kk ρ BB => ∃ (i : Nat), (i ≤ m) ∧ ((ars.take i).any badA = false) ∧ kk = m - i ∧ ρ 17 = .int .i64 (i : Nat) ∧ ρ 0 = .pointer (some ⟨d, 0, none⟩) ∧ ρ 1 = .slice a m c ∧ ρ 15 = .slice a m c ∧ ρ 16 = .int .i64 (m : Nat) ∧ BB = F * Dev d s) (m := m - (0)) ?_ ?_
    · exact ⟨0, by omega, rfl, rfl, rfl, rfl, rfl, rfl, rfl, rfl⟩
    · intro k ρ B hI
      obtain ⟨i, hp0, hp1, hkk1, hE17, hE0, hE1, hE15, hE16, rfl⟩ := hI
      refine tc_env (d := 17) hE17 ?_
      refine tc_env (d := 0) hE0 ?_
      refine tc_env (d := 1) hE1 ?_
      refine tc_env (d := 15) hE15 ?_
      refine tc_env (d := 16) hE16 ?_
      clear hE17 hE0 hE1 hE15 hE16
      refine tc_seq ?_
      refine tc_reg ?_
      refine tl_v rfl (o_lss rfl rfl) ?_
      refine tl_nil ?_
      refine q_then_n ?_
      refine tc_seq ?_
      refine tc_cond rfl (fun h => ?_) (fun h => ?_)
      · have hi : i < ars.length := by simp at h; omega
        obtain ⟨kb, kc, hkv, hkc, hkr⟩ := hr.keep i hi
        have hka := acs_at hr.len hi
        have hkv2 : kvs[i]'(by rw [hr.len]; exact hi) = .slice kb ars[i].2.length kc := by rw [List.getElem?_eq_getElem (by rw [hr.len]; exact hi)] at hkv; exact Option.some.inj hkv
        rw [hkv2] at hka
        have hke := hk _ (List.getElem_mem hi)
        refine tc_skip ?_
        refine q_then_n ?_
        refine tc_seq ?_
        refine tc_block ?_
        refine tc_seq ?_
        refine tc_reg ?_
        refine tl_v rfl (o_ixP Try.underlying74 sz72 rfl rfl (by first | omega | (simp only [bys_length, ints_length, wds_length, bos_length, List.length_append, List.length_take, List.length_drop, List.length_singleton]; omega)) (by repeat (first | exact nn_some | with_reducible exact nn_sl (by decide) | exact nn_rs (by assumption) (fun _ => by first | omega | (simp only [bys_length, ints_length, wds_length, bos_length, List.length_append, List.length_take, List.length_drop, List.length_singleton]; omega)) | apply Nn.left))) ?_
        refine tl_v rfl (o_ldPN (vs := [.int .i64 ars[i].1, .slice kb ars[i].2.length kc]) a72 sz72 rfl (by repeat (first | assumption | with_reducible exact rs_sl | with_reducible exact rs_pt0 | exact rs_none | apply Rs.left)) hka rfl (by decide)) ?_
        refine tl_x rfl (o_alloc z72 rfl) ?_
        rintro _ _ ⟨b7, rfl, rfl⟩
        refine tl_u rfl (o_stUN rfl upd_here sz72 rfl rfl rfl (by simp) rfl) ?_
        refine tl_nil ?_
        refine q_then_n ?_
        refine tc_seq ?_
        refine tc_reg ?_
        refine tl_v rfl (o_fieldAddr (o := 0) Try.underlying72 rfl rfl sz3 rfl) ?_
        refine tl_v rfl (by first | exact o_load p3 rfl (by repeat (first | with_reducible exact has_here | with_reducible exact has_pt | apply has_left)) rfl | exact o_loadC p3 rfl (by assumption)) ?_
        refine tl_v rfl (o_lss rfl rfl) ?_
        refine tl_v rfl (o_move (by conv => lhs; whnf)) ?_
        refine tl_bool (d := 24) rfl (fun h => ?_) (fun h => ?_)
        · try simp only [decide_eq_true_eq, decide_eq_false_iff_not, Bool.not_eq_true', Bool.not_eq_false', Option.isNone_some, Option.isNone_none, Bool.not_true, Bool.not_false] at h
          refine tl_skip rfl ?_
          refine tl_skip rfl ?_
          refine tl_skip rfl ?_
          refine tl_v rfl (o_pick_t rfl (by conv => lhs; whnf)) ?_
          refine tl_nil ?_
          refine q_then_n ?_
          refine tc_cond_t rfl ?_
          refine tc_seq ?_
          refine tc_reg ?_
          refine tl_v rfl (o_assign (by conv => lhs; whnf)) ?_
          refine tl_nil ?_
          refine q_then_n ?_
          refine tc_ret ?_
          refine q_block_r (q_then_r (q_then_r (q_block_r (q_then_r ?_))))
          have hs2 : armS ars s = (2, s) := by unfold armS; rw [if_neg (by rw [hoff]; decide), if_pos (any_at hi (by unfold badA; simp at h ⊢; first | exact h | exact .inl h | exact .inr h | omega))]
          exact ⟨.int .i64 2, F * Dev d s, res1 rfl rfl, Dr.sat (by repeat (first | with_reducible exact dr_refl | apply dr_keep | apply dr_drop)), by rw [hs2], by rw [hs2]⟩
        · try simp only [decide_eq_true_eq, decide_eq_false_iff_not, Bool.not_eq_true', Bool.not_eq_false', Option.isNone_some, Option.isNone_none, Bool.not_true, Bool.not_false] at h
          refine tl_v rfl (o_fieldAddr (o := 1) Try.underlying72 rfl rfl sz37 rfl) ?_
          refine tl_v rfl (by first | exact o_load p37 rfl (by repeat (first | with_reducible exact has_here | with_reducible exact has_pt | apply has_left)) rfl | exact o_loadC p37 rfl (by assumption)) ?_
          refine tl_c rfl (o_call bd91 rfl (low_c (xs := ars[i].2))) ?_
          rintro _ _ ⟨rfl, rfl⟩
          refine tl_v rfl (o_pick_f rfl (by conv => lhs; whnf)) ?_
          refine tl_nil ?_
          refine q_then_n ?_
          refine tc_cond rfl (fun h => ?_) (fun h => ?_)
          · try simp only [decide_eq_true_eq, decide_eq_false_iff_not, Bool.not_eq_true', Bool.not_eq_false', Option.isNone_some, Option.isNone_none, Bool.not_true, Bool.not_false] at h
            refine tc_seq ?_
            refine tc_reg ?_
            refine tl_v rfl (o_assign (by conv => lhs; whnf)) ?_
            refine tl_nil ?_
            refine q_then_n ?_
            refine tc_ret ?_
            refine q_block_r (q_then_r (q_then_r (q_block_r (q_then_r ?_))))
            have hs2 : armS ars s = (2, s) := by unfold armS; rw [if_neg (by rw [hoff]; decide), if_pos (any_at hi (by unfold badA; simp at h ⊢; first | exact h | exact .inl h | exact .inr h | omega))]
            exact ⟨.int .i64 2, F * Dev d s, res1 rfl rfl, Dr.sat (by repeat (first | with_reducible exact dr_refl | apply dr_keep | apply dr_drop)), by rw [hs2], by rw [hs2]⟩
          · have hbad : badA ars[i] = false := by unfold badA; rw [Bool.or_eq_false_iff]; exact ⟨by simp; omega, h⟩
            refine tc_skip ?_
            refine q_block_n (q_then_n ?_)
            refine tc_pre (Dr.sat (A' := F * Dev d s) (by repeat (first | with_reducible exact dr_refl | apply dr_keep | apply dr_drop))) ?_
            refine tc_reg ?_
            refine tl_v rfl (by first | exact o_addI rfl rfl (by omega) | exact o_add rfl rfl) ?_
            refine tl_v rfl (o_move (by conv => lhs; whnf)) ?_
            refine tl_nil ?_
            refine q_then_n ?_
            exact ⟨_, by omega, i + 1, by omega, any_take hp1 hi hbad, rfl, rfl, rfl, rfl, rfl, rfl, rfl⟩
      · try simp only [decide_eq_true_eq, decide_eq_false_iff_not, Bool.not_eq_true', Bool.not_eq_false', Option.isNone_some, Option.isNone_none, Bool.not_true, Bool.not_false] at h
        refine tc_exit ?_
        refine q_then_e (q_then_e (q_block_x (q_then_n ?_)))
        refine tc_seq ?_
        refine tc_seq ?_
        refine tc_reg ?_
        refine tl_v rfl (o_move (by conv => lhs; whnf)) ?_
        refine tl_v rfl (o_len Try.underlying74 rfl) ?_
        refine tl_v rfl (o_move (by conv => lhs; whnf)) ?_
        obtain rfl : m = i := by omega
        have hnb : ars.any badA = false := by rwa [List.take_of_length_le (by omega)] at hp1
        refine tl_dev fun hw1 bl svs av kvs1 hsv hkv => ?_
        refine tl_have (fun _ _ h => devC_arms h) fun ⟨aa, ca, hav, _⟩ => ?_
        subst hav
        refine tl_v rfl (o_nilCheck rfl) ?_
        refine tl_v rfl (o_fieldAddr (o := 2) Try.underlying97 rfl rfl sz74 rfl) ?_
        refine tl_v rfl (o_load p74 rfl devC_d rfl) ?_
        refine tl_v rfl (o_len Try.underlying74 rfl) ?_
        refine tl_v rfl (by first | exact o_addI rfl rfl (by omega) | exact o_add rfl rfl) ?_
        refine tl_v rfl (o_gtr rfl rfl) ?_
        refine tl_pre (dev_back hw1 hsv hkv) ?_
        refine tl_nil ?_
        refine q_then_n ?_
        refine tc_cond rfl (fun h => ?_) (fun h => ?_)
        · try simp only [decide_eq_true_eq, decide_eq_false_iff_not, Bool.not_eq_true', Bool.not_eq_false', Option.isNone_some, Option.isNone_none, Bool.not_true, Bool.not_false] at h
          refine tc_seq ?_
          refine tc_reg ?_
          refine tl_v rfl (o_assign (by conv => lhs; whnf)) ?_
          refine tl_nil ?_
          refine q_then_n ?_
          refine tc_ret ?_
          refine q_then_r ?_
          have hs2 : armS ars s = (4, s) := by unfold armS; rw [if_neg (by rw [hoff]; decide), if_neg (by rw [hnb]; decide), if_pos (by omega)]
          exact ⟨.int .i64 4, F * Dev d s, res1 rfl rfl, Dr.sat (by repeat (first | with_reducible exact dr_refl | apply dr_keep | apply dr_drop)), by rw [hs2], by rw [hs2]⟩
        · try simp only [decide_eq_true_eq, decide_eq_false_iff_not, Bool.not_eq_true', Bool.not_eq_false', Option.isNone_some, Option.isNone_none, Bool.not_true, Bool.not_false] at h
          refine tc_skip ?_
          refine q_then_n ?_
          refine tc_seq ?_
          refine tc_seq ?_
          refine tc_reg ?_
          have hfit : ars.length + s.arms.length ≤ 64 := by omega
          refine tl_v rfl (o_move (by conv => lhs; whnf)) ?_
          refine tl_v rfl (o_len Try.underlying74 rfl) ?_
          refine tl_v rfl (o_move (by conv => lhs; whnf)) ?_
          refine tl_nil ?_
          refine q_then_n ?_
          refine tc_block ?_
          refine tc_loop (fun kk ρ BB => ∃ (i : Nat), (i ≤ m) ∧ kk = m - i ∧ ρ 41 = .int .i64 (i : Nat) ∧ ρ 0 = .pointer (some ⟨d, 0, none⟩) ∧ ρ 39 = .slice a m c ∧ ρ 40 = .int .i64 (m : Nat) ∧ BB = F * Dev d { s with arms := s.arms ++ ars.take i }) (m := m - (0)) ?_ ?_
          · exact ⟨0, by omega, rfl, rfl, rfl, rfl, rfl, by rw [List.take_zero, List.append_nil]⟩
          · intro k ρ B hI
            obtain ⟨i, hp0, hkk2, hE41, hE0, hE39, hE40, rfl⟩ := hI
            refine tc_env (d := 41) hE41 ?_
            refine tc_env (d := 0) hE0 ?_
            refine tc_env (d := 39) hE39 ?_
            refine tc_env (d := 40) hE40 ?_
            clear hE41 hE0 hE39 hE40
            refine tc_seq ?_
            refine tc_reg ?_
            refine tl_v rfl (o_lss rfl rfl) ?_
            refine tl_nil ?_
            refine q_then_n ?_
            refine tc_seq ?_
            refine tc_cond rfl (fun h => ?_) (fun h => ?_)
            · have hi : i < ars.length := by simp at h; omega
              obtain ⟨kb, kc, hkv, hkc, hkr⟩ := hr.keep i hi
              have hka := acs_at hr.len hi
              have hkv2 : kvs[i]'(by rw [hr.len]; exact hi) = .slice kb ars[i].2.length kc := by rw [List.getElem?_eq_getElem (by rw [hr.len]; exact hi)] at hkv; exact Option.some.inj hkv
              rw [hkv2] at hka
              have hke := hk _ (List.getElem_mem hi)
              refine tc_skip ?_
              refine q_then_n ?_
              refine tc_seq ?_
              refine tc_block ?_
              refine tc_seq ?_
              refine tc_reg ?_
              refine tl_v rfl (o_ixP Try.underlying74 sz72 rfl rfl (by first | omega | (simp only [bys_length, ints_length, wds_length, bos_length, List.length_append, List.length_take, List.length_drop, List.length_singleton]; omega)) (by repeat (first | exact nn_some | with_reducible exact nn_sl (by decide) | exact nn_rs (by assumption) (fun _ => by first | omega | (simp only [bys_length, ints_length, wds_length, bos_length, List.length_append, List.length_take, List.length_drop, List.length_singleton]; omega)) | apply Nn.left))) ?_
              refine tl_v rfl (o_ldPN (vs := [.int .i64 ars[i].1, .slice kb ars[i].2.length kc]) a72 sz72 rfl (by repeat (first | assumption | with_reducible exact rs_sl | with_reducible exact rs_pt0 | exact rs_none | apply Rs.left)) hka rfl (by decide)) ?_
              refine tl_x rfl (o_alloc z72 rfl) ?_
              rintro _ _ ⟨b9, rfl, rfl⟩
              refine tl_u rfl (o_stUN (l' := [.int .i64 ars[i].1, .slice kb ars[i].2.length kc]) rfl upd_here sz72 rfl rfl rfl (by simp) rfl) ?_
              refine tl_nil ?_
              refine q_then_n ?_
              rw [star_swap]
              refine tc_dev fun hw2 bl svs av kvs2 hsv hkv3 => ?_
              refine tc_have (fun _ _ h => devC_arms h) fun ⟨aa, ca, hav, _⟩ => ?_
              subst hav
              refine tc_eq devC_open ?_
              rw [star_swap, star_swap _ _ (pt d _), star_swap _ _ (pt bl _)]
              refine tc_regh (S := F * pt b9 (cl [.int .i64 ars[i].1, .slice kb ars[i].2.length kc] 72) * KeepsR kvs2 (s.arms ++ ars.take i)) mo (by repeat (first | with_reducible exact dr_refl | apply dr_keep | apply dr_drop)) ?_
              show TH _ _ _ _ _ 16 #[false, false, false, false, false, false, false, false, false, false, false, false, false, false, false, false] _ _
              refine th_take (i := 0) (listed' := #[true, false, false, false, false, false, false, false, false, false, false, false, false, false, false, false]) rfl (by kernel_rfl) (by kernel_rfl) (by kernel_rfl) rfl rfl (o_move (by conv => lhs; whnf)) ?_
              refine th_take (i := 1) (listed' := #[true, true, false, false, false, false, false, false, false, false, false, false, false, false, false, false]) rfl (by kernel_rfl) (by kernel_rfl) (by kernel_rfl) rfl rfl (o_move (by conv => lhs; whnf)) ?_
              refine th_take (i := 2) (listed' := #[true, true, true, false, false, false, false, false, false, false, false, false, false, false, false, false]) rfl (by kernel_rfl) (by kernel_rfl) (by kernel_rfl) rfl rfl (o_nilCheck rfl) ?_
              refine th_take (i := 3) (listed' := #[true, true, true, true, false, false, false, false, false, false, false, false, false, false, false, false]) rfl (by kernel_rfl) (by kernel_rfl) (by kernel_rfl) rfl rfl (o_fieldAddr (o := 2) Try.underlying97 rfl rfl sz74 rfl) ?_
              refine th_take (i := 5) (listed' := #[true, true, true, true, false, true, false, false, false, false, false, false, false, false, false, false]) rfl (by kernel_rfl) (by kernel_rfl) (by kernel_rfl) rfl rfl (o_fieldAddr (o := 0) Try.underlying72 rfl rfl sz3 rfl) ?_
              refine th_take (i := 6) (listed' := #[true, true, true, true, false, true, true, false, false, false, false, false, false, false, false, false]) rfl (by kernel_rfl) (by kernel_rfl) (by kernel_rfl) rfl rfl (by first | exact o_load p3 rfl (by repeat (first | with_reducible exact has_here | with_reducible exact has_pt | apply has_left)) rfl | exact o_loadC p3 rfl (by assumption)) ?_
              refine th_take (i := 7) (listed' := #[true, true, true, true, false, true, true, true, false, false, false, false, false, false, false, false]) rfl (by kernel_rfl) (by kernel_rfl) (by kernel_rfl) rfl rfl (o_fieldAddr (o := 1) Try.underlying72 rfl rfl sz37 rfl) ?_
              refine th_take (i := 8) (listed' := #[true, true, true, true, false, true, true, true, true, false, false, false, false, false, false, false]) rfl (by kernel_rfl) (by kernel_rfl) (by kernel_rfl) rfl rfl (by first | exact o_load p37 rfl (by repeat (first | with_reducible exact has_here | with_reducible exact has_pt | apply has_left)) rfl | exact o_loadC p37 rfl (by assumption)) ?_
              refine th_two (i := 4) (j := 9) (by kernel_rfl) ?_ ?_
              · skip
                refine oh_v (i := 4) (listed' := #[true, true, true, true, true, true, true, true, true, false, false, false, false, false, false, false]) rfl rfl rfl (o_load p74 rfl (by repeat (first | with_reducible exact has_here | with_reducible exact has_pt | apply has_left)) rfl) ?_
                refine th_one (i := 9) (by kernel_rfl) ?_
                refine oh_c (i := 9) (listed' := #[true, true, true, true, true, true, true, true, true, true, false, false, false, false, false, false]) rfl rfl rfl (o_call bd100 rfl (CloneI_c (xs := ints ars[i].2))) ?_
                rintro _ _ ⟨a54, c54, rfl, hc54, rfl⟩
                refine ⟨by repeat (first | with_reducible exact dr_refl | apply dr_keep | apply dr_drop), ?_⟩
                refine th_take (i := 10) (listed' := #[true, true, true, true, true, true, true, true, true, true, true, false, false, false, false, false]) rfl (by kernel_rfl) (by kernel_rfl) (by kernel_rfl) rfl rfl (o_bS (l := [_, _]) (pv_cons (by conv => lhs; whnf) (pv_cons (by conv => lhs; whnf) pv_nil)) Try.underlying72 z72 (pl72 Try.underlying72) rfl) ?_
                refine th_one (i := 11) (by kernel_rfl) ?_
                refine oh_x (i := 11) (listed' := #[true, true, true, true, true, true, true, true, true, true, true, true, false, false, false, false]) rfl rfl rfl (o_buildSliceK Try.underlying74 sz72 z72 rfl (by first | rfl | simp) (by decide)) ?_
                rintro _ _ ⟨b56, rfl, rfl⟩
                refine ⟨by repeat (first | with_reducible exact dr_refl | apply dr_keep | apply dr_drop), ?_⟩
                refine th_one (i := 12) (by kernel_rfl) ?_
                refine oh_x (i := 12) (listed' := #[true, true, true, true, true, true, true, true, true, true, true, true, true, false, false, false]) rfl rfl rfl (o_apB Try.underlying74 Try.underlying74 sz72 by72 z72 rfl (by decide) (by decide) rfl rfl rfl (by repeat (first | with_reducible exact ct_here | apply ct_left)) rfl (by first | exact bys_all _ | exact ints_all _ | exact wds_all _ | exact bos_all _ | rfl) (by first | omega | (simp only [bys_length, ints_length, wds_length, bos_length, List.length_append, List.length_take, List.length_drop, List.length_singleton]; omega)) (by first | exact bys_sn _ _ | exact ints_sn _ _ | exact wds_sn _ _ | exact bos_sn _ _ | exact (bys_append _ _).symm | rfl)) ?_
                rintro _ _ ⟨a57, c57, rfl, hc57, rfl⟩
                refine ⟨by repeat (first | with_reducible exact dr_refl | apply dr_keep | apply dr_drop), ?_⟩
                refine th_take (i := 13) (listed' := #[true, true, true, true, true, true, true, true, true, true, true, true, true, true, false, false]) rfl (by kernel_rfl) (by kernel_rfl) (by kernel_rfl) rfl rfl (o_nilCheck rfl) ?_
                refine th_take (i := 14) (listed' := #[true, true, true, true, true, true, true, true, true, true, true, true, true, true, true, false]) rfl (by kernel_rfl) (by kernel_rfl) (by kernel_rfl) rfl rfl (o_fieldAddr (o := 2) Try.underlying97 rfl rfl sz74 rfl) ?_
                refine th_one (i := 15) (by kernel_rfl) ?_
                refine oh_u (i := 15) (listed' := #[true, true, true, true, true, true, true, true, true, true, true, true, true, true, true, true]) rfl rfl rfl (o_stU (l' := dcs bl s.ls.length { s with arms := s.arms ++ ars.take i } (.slice a57 ((s.arms ++ ars.take i).length + 1) c57)) rfl (by repeat (first | with_reducible exact upd_here | with_reducible exact upd_pt | apply upd_left)) sz74 rfl rfl (by show 2 < 5; decide) rfl) (by repeat (first | with_reducible exact dr_refl | apply dr_keep | apply dr_drop)) ?_
                refine th_done (by kernel_rfl) ?_
                refine q_block_n (q_then_n ?_)
                have hw3 : WfD { { s with arms := s.arms ++ ars.take i } with arms := { s with arms := s.arms ++ ars.take i }.arms ++ [ars[i]] } := by
                  show WfD { s with arms := (s.arms ++ ars.take i) ++ [ars[i]] }
                  rw [List.append_assoc, ← List.take_succ_eq_append_getElem hi]
                  exact arm_wf hw (by rw [List.length_take]; omega) (by rw [List.any_eq_false] at hnb ⊢; exact fun x hx => hnb x (List.mem_of_mem_take hx)) (fun x hx => by have := hk x (List.mem_of_mem_take hx); exact ⟨this.1.2, this.2⟩)
                refine tc_pre (A' := F * Dev d { { s with arms := s.arms ++ ars.take i } with arms := { s with arms := s.arms ++ ars.take i }.arms ++ [ars[i]] }) (fun _ _ h => arm_back (F := F) (d := d) (bl := bl) (J := pt b9 (cl [.int .i64 ars[i].1, .slice kb ars[i].2.length kc] 72)) (v := .slice a54 ars[i].2.length c54) (av := .slice a57 ((s.arms ++ ars.take i).length + 1) c57) hw3 hsv hkv3 (h.perm (by first | rfl | ac_rfl))) ?_
                refine tc_reg ?_
                refine tl_v rfl (by first | exact o_addI rfl rfl (by omega) | exact o_add rfl rfl) ?_
                refine tl_v rfl (o_move (by conv => lhs; whnf)) ?_
                refine tl_nil ?_
                refine q_then_n ?_
                exact ⟨_, by omega, i + 1, by omega, rfl, rfl, rfl, rfl, rfl, by rw [List.take_succ_eq_append_getElem hi, ← List.append_assoc]⟩
              · skip
                refine oh_c (i := 9) (listed' := #[true, true, true, true, false, true, true, true, true, true, false, false, false, false, false, false]) rfl rfl rfl (o_call bd100 rfl (CloneI_c (xs := ints ars[i].2))) ?_
                rintro _ _ ⟨a54, c54, rfl, hc54, rfl⟩
                refine ⟨by repeat (first | with_reducible exact dr_refl | apply dr_keep | apply dr_drop), ?_⟩
                refine th_take (i := 10) (listed' := #[true, true, true, true, false, true, true, true, true, true, true, false, false, false, false, false]) rfl (by kernel_rfl) (by kernel_rfl) (by kernel_rfl) rfl rfl (o_bS (l := [_, _]) (pv_cons (by conv => lhs; whnf) (pv_cons (by conv => lhs; whnf) pv_nil)) Try.underlying72 z72 (pl72 Try.underlying72) rfl) ?_
                refine th_two (i := 4) (j := 11) (by kernel_rfl) ?_ ?_
                · skip
                  refine oh_v (i := 4) (listed' := #[true, true, true, true, true, true, true, true, true, true, true, false, false, false, false, false]) rfl rfl rfl (o_load p74 rfl (by repeat (first | with_reducible exact has_here | with_reducible exact has_pt | apply has_left)) rfl) ?_
                  refine th_one (i := 11) (by kernel_rfl) ?_
                  refine oh_x (i := 11) (listed' := #[true, true, true, true, true, true, true, true, true, true, true, true, false, false, false, false]) rfl rfl rfl (o_buildSliceK Try.underlying74 sz72 z72 rfl (by first | rfl | simp) (by decide)) ?_
                  rintro _ _ ⟨b56, rfl, rfl⟩
                  refine ⟨by repeat (first | with_reducible exact dr_refl | apply dr_keep | apply dr_drop), ?_⟩
                  refine th_one (i := 12) (by kernel_rfl) ?_
                  refine oh_x (i := 12) (listed' := #[true, true, true, true, true, true, true, true, true, true, true, true, true, false, false, false]) rfl rfl rfl (o_apB Try.underlying74 Try.underlying74 sz72 by72 z72 rfl (by decide) (by decide) rfl rfl rfl (by repeat (first | with_reducible exact ct_here | apply ct_left)) rfl (by first | exact bys_all _ | exact ints_all _ | exact wds_all _ | exact bos_all _ | rfl) (by first | omega | (simp only [bys_length, ints_length, wds_length, bos_length, List.length_append, List.length_take, List.length_drop, List.length_singleton]; omega)) (by first | exact bys_sn _ _ | exact ints_sn _ _ | exact wds_sn _ _ | exact bos_sn _ _ | exact (bys_append _ _).symm | rfl)) ?_
                  rintro _ _ ⟨a57, c57, rfl, hc57, rfl⟩
                  refine ⟨by repeat (first | with_reducible exact dr_refl | apply dr_keep | apply dr_drop), ?_⟩
                  refine th_take (i := 13) (listed' := #[true, true, true, true, true, true, true, true, true, true, true, true, true, true, false, false]) rfl (by kernel_rfl) (by kernel_rfl) (by kernel_rfl) rfl rfl (o_nilCheck rfl) ?_
                  refine th_take (i := 14) (listed' := #[true, true, true, true, true, true, true, true, true, true, true, true, true, true, true, false]) rfl (by kernel_rfl) (by kernel_rfl) (by kernel_rfl) rfl rfl (o_fieldAddr (o := 2) Try.underlying97 rfl rfl sz74 rfl) ?_
                  refine th_one (i := 15) (by kernel_rfl) ?_
                  refine oh_u (i := 15) (listed' := #[true, true, true, true, true, true, true, true, true, true, true, true, true, true, true, true]) rfl rfl rfl (o_stU (l' := dcs bl s.ls.length { s with arms := s.arms ++ ars.take i } (.slice a57 ((s.arms ++ ars.take i).length + 1) c57)) rfl (by repeat (first | with_reducible exact upd_here | with_reducible exact upd_pt | apply upd_left)) sz74 rfl rfl (by show 2 < 5; decide) rfl) (by repeat (first | with_reducible exact dr_refl | apply dr_keep | apply dr_drop)) ?_
                  refine th_done (by kernel_rfl) ?_
                  refine q_block_n (q_then_n ?_)
                  have hw3 : WfD { { s with arms := s.arms ++ ars.take i } with arms := { s with arms := s.arms ++ ars.take i }.arms ++ [ars[i]] } := by
                    show WfD { s with arms := (s.arms ++ ars.take i) ++ [ars[i]] }
                    rw [List.append_assoc, ← List.take_succ_eq_append_getElem hi]
                    exact arm_wf hw (by rw [List.length_take]; omega) (by rw [List.any_eq_false] at hnb ⊢; exact fun x hx => hnb x (List.mem_of_mem_take hx)) (fun x hx => by have := hk x (List.mem_of_mem_take hx); exact ⟨this.1.2, this.2⟩)
                  refine tc_pre (A' := F * Dev d { { s with arms := s.arms ++ ars.take i } with arms := { s with arms := s.arms ++ ars.take i }.arms ++ [ars[i]] }) (fun _ _ h => arm_back (F := F) (d := d) (bl := bl) (J := pt b9 (cl [.int .i64 ars[i].1, .slice kb ars[i].2.length kc] 72)) (v := .slice a54 ars[i].2.length c54) (av := .slice a57 ((s.arms ++ ars.take i).length + 1) c57) hw3 hsv hkv3 (h.perm (by first | rfl | ac_rfl))) ?_
                  refine tc_reg ?_
                  refine tl_v rfl (by first | exact o_addI rfl rfl (by omega) | exact o_add rfl rfl) ?_
                  refine tl_v rfl (o_move (by conv => lhs; whnf)) ?_
                  refine tl_nil ?_
                  refine q_then_n ?_
                  exact ⟨_, by omega, i + 1, by omega, rfl, rfl, rfl, rfl, rfl, by rw [List.take_succ_eq_append_getElem hi, ← List.append_assoc]⟩
                · skip
                  refine oh_x (i := 11) (listed' := #[true, true, true, true, false, true, true, true, true, true, true, true, false, false, false, false]) rfl rfl rfl (o_buildSliceK Try.underlying74 sz72 z72 rfl (by first | rfl | simp) (by decide)) ?_
                  rintro _ _ ⟨b56, rfl, rfl⟩
                  refine ⟨by repeat (first | with_reducible exact dr_refl | apply dr_keep | apply dr_drop), ?_⟩
                  refine th_one (i := 4) (by kernel_rfl) ?_
                  refine oh_v (i := 4) (listed' := #[true, true, true, true, true, true, true, true, true, true, true, true, false, false, false, false]) rfl rfl rfl (o_load p74 rfl (by repeat (first | with_reducible exact has_here | with_reducible exact has_pt | apply has_left)) rfl) ?_
                  refine th_one (i := 12) (by kernel_rfl) ?_
                  refine oh_x (i := 12) (listed' := #[true, true, true, true, true, true, true, true, true, true, true, true, true, false, false, false]) rfl rfl rfl (o_apB Try.underlying74 Try.underlying74 sz72 by72 z72 rfl (by decide) (by decide) rfl rfl rfl (by repeat (first | with_reducible exact ct_here | apply ct_left)) rfl (by first | exact bys_all _ | exact ints_all _ | exact wds_all _ | exact bos_all _ | rfl) (by first | omega | (simp only [bys_length, ints_length, wds_length, bos_length, List.length_append, List.length_take, List.length_drop, List.length_singleton]; omega)) (by first | exact bys_sn _ _ | exact ints_sn _ _ | exact wds_sn _ _ | exact bos_sn _ _ | exact (bys_append _ _).symm | rfl)) ?_
                  rintro _ _ ⟨a57, c57, rfl, hc57, rfl⟩
                  refine ⟨by repeat (first | with_reducible exact dr_refl | apply dr_keep | apply dr_drop), ?_⟩
                  refine th_take (i := 13) (listed' := #[true, true, true, true, true, true, true, true, true, true, true, true, true, true, false, false]) rfl (by kernel_rfl) (by kernel_rfl) (by kernel_rfl) rfl rfl (o_nilCheck rfl) ?_
                  refine th_take (i := 14) (listed' := #[true, true, true, true, true, true, true, true, true, true, true, true, true, true, true, false]) rfl (by kernel_rfl) (by kernel_rfl) (by kernel_rfl) rfl rfl (o_fieldAddr (o := 2) Try.underlying97 rfl rfl sz74 rfl) ?_
                  refine th_one (i := 15) (by kernel_rfl) ?_
                  refine oh_u (i := 15) (listed' := #[true, true, true, true, true, true, true, true, true, true, true, true, true, true, true, true]) rfl rfl rfl (o_stU (l' := dcs bl s.ls.length { s with arms := s.arms ++ ars.take i } (.slice a57 ((s.arms ++ ars.take i).length + 1) c57)) rfl (by repeat (first | with_reducible exact upd_here | with_reducible exact upd_pt | apply upd_left)) sz74 rfl rfl (by show 2 < 5; decide) rfl) (by repeat (first | with_reducible exact dr_refl | apply dr_keep | apply dr_drop)) ?_
                  refine th_done (by kernel_rfl) ?_
                  refine q_block_n (q_then_n ?_)
                  have hw3 : WfD { { s with arms := s.arms ++ ars.take i } with arms := { s with arms := s.arms ++ ars.take i }.arms ++ [ars[i]] } := by
                    show WfD { s with arms := (s.arms ++ ars.take i) ++ [ars[i]] }
                    rw [List.append_assoc, ← List.take_succ_eq_append_getElem hi]
                    exact arm_wf hw (by rw [List.length_take]; omega) (by rw [List.any_eq_false] at hnb ⊢; exact fun x hx => hnb x (List.mem_of_mem_take hx)) (fun x hx => by have := hk x (List.mem_of_mem_take hx); exact ⟨this.1.2, this.2⟩)
                  refine tc_pre (A' := F * Dev d { { s with arms := s.arms ++ ars.take i } with arms := { s with arms := s.arms ++ ars.take i }.arms ++ [ars[i]] }) (fun _ _ h => arm_back (F := F) (d := d) (bl := bl) (J := pt b9 (cl [.int .i64 ars[i].1, .slice kb ars[i].2.length kc] 72)) (v := .slice a54 ars[i].2.length c54) (av := .slice a57 ((s.arms ++ ars.take i).length + 1) c57) hw3 hsv hkv3 (h.perm (by first | rfl | ac_rfl))) ?_
                  refine tc_reg ?_
                  refine tl_v rfl (by first | exact o_addI rfl rfl (by omega) | exact o_add rfl rfl) ?_
                  refine tl_v rfl (o_move (by conv => lhs; whnf)) ?_
                  refine tl_nil ?_
                  refine q_then_n ?_
                  exact ⟨_, by omega, i + 1, by omega, rfl, rfl, rfl, rfl, rfl, by rw [List.take_succ_eq_append_getElem hi, ← List.append_assoc]⟩
            · try simp only [decide_eq_true_eq, decide_eq_false_iff_not, Bool.not_eq_true', Bool.not_eq_false', Option.isNone_some, Option.isNone_none, Bool.not_true, Bool.not_false] at h
              refine tc_exit ?_
              refine q_then_e (q_then_e (q_block_x (q_then_n ?_)))
              refine tc_seq ?_
              refine tc_reg ?_
              refine tl_v rfl (o_assign (by conv => lhs; whnf)) ?_
              refine tl_nil ?_
              refine q_then_n ?_
              refine tc_ret ?_
              obtain rfl : m = i := by omega
              have hs2 : armS ars s = (0, { s with arms := s.arms ++ ars }) := by unfold armS; rw [if_neg (by rw [hoff]; decide), if_neg (by rw [hnb]; decide), if_neg (by omega)]
              rw [List.take_of_length_le (show ars.length ≤ m by omega)]
              exact ⟨.int .i64 0, F * Dev d { s with arms := s.arms ++ ars }, res1 rfl rfl, Dr.sat (by repeat (first | with_reducible exact dr_refl | apply dr_keep | apply dr_drop)), by rw [hs2], by rw [hs2]⟩


theorem Arm_c {A R : SP} {C : SP → SP} {d : Nat} {s : DevS} (hc : Ct A (Dev d s) R C := by repeat (first | with_reducible exact ct_here | apply ct_left)) {a : Option Addr} {c m : Nat} {kvs : List Value} {ars : List (Int × List Int)} (hr : RdA R a kvs ars) (hm : ars.length = m := by first | assumption | rfl) (hl : m ≤ 17592186044416 := by omega)
    (hk : ∀ x ∈ ars, (-9223372036854775808 ≤ x.1 ∧ x.1 ≤ 9223372036854775807) ∧ x.2.length ≤ 17592186044416 ∧ ∀ k ∈ x.2, k ≤ 9223372036854775807) :
    Fn Try.prog 44 #[.pointer (some ⟨d, 0, none⟩), .slice a m c] A (fun r B => ∃ e s2, armS ars s = (e, s2) ∧ r = .int .i64 e ∧ B = C (Dev d s2)) := by
  obtain ⟨rfl, hC⟩ := hc
  exact (ArmW_f R hr hm hl hk).mono fun _ _ h => ⟨(armS ars s).1, (armS ars s).2, rfl, h.1, by rw [hC]; exact h.2⟩

end Go.Vl
