/- Small helpers of the references: copies, joins. Conditions: none. -/
import Derived.Test.YtimckjnnjakcoaaRws
import Derived.Test.YtimckjnnjakcoaaL8a
import Derived.Test.YtimckjnnjakcoaaPmem6
set_option linter.unusedVariables false
set_option linter.unusedSimpArgs false
namespace Go.Vl
open Go Go.Proofs


theorem slb_snoc {A : SP} {u : Value} {l : List Nat} {x : Nat} : A * Sl 1 u (l.length + 1) (bys l ++ [.int .u8 (x : Int)]) = A * Sl 1 u (l ++ [x]).length (bys (l ++ [x])) := by
  rw [bys_append, List.length_append]; rfl
theorem slb_len {A : SP} {u : Value} {n m : Nat} {l l' : List Nat} (h : n = m) (e : l = l') : A * Sl 1 u n (bys l) = A * Sl 1 u m (bys l') := by subst h e; rfl
theorem EqBytesN_f (A : SP) (a1 a2 : Option Addr) (c1 c2 n m : Nat) (xs ys : List Nat) (h1 : Rd A a1 (bys xs)) (h2 : Rd A a2 (bys ys)) (hx : xs.length = n) (hy : ys.length = m) (hn : n ≤ 4611686018427387904) (hm : m ≤ 4611686018427387904) :
    Fn Try.prog 22 #[.slice a1 n c1, .slice a2 m c2] A (fun r B => r = .bool (decide (xs = ys)) ∧ A = B) := by
  subst hx hy; exact EqBytes_f A a1 a2 c1 c2 xs ys h1 h2 hn hm

theorem CopyBytes_f (A : SP) (a : Option Addr) (c : Nat) (xs : List Nat) (hr : Rd A a (bys xs)) (hl : xs.length ≤ 140737488351232) :
    Fn Try.prog 39 #[.slice a xs.length c] (A) (fun r B => B = A * Sl 1 r xs.length (bys xs)) := by
  refine fn_enter (args := [.slice a xs.length c]) Try.func39 rfl Try.ntmps39 (by simp) ?_
  refine tc_seq ?_
  refine tc_reg ?_
  refine tl_v rfl (o_assign rfl) ?_
  refine tl_nil ?_
  refine q_then_n ?_
  refine tc_seq ?_
  refine tc_reg ?_
  refine tl_v rfl (o_move rfl) ?_
  refine tl_v rfl (o_len Try.underlying28 rfl) ?_
  refine tl_x rfl (o_makeSlice (len := 0) (cap := xs.length) Try.underlying28 sz5 by5 z5 rfl rfl rfl (by omega) (by omega) (by omega)) ?_
  rintro _ _ ⟨b7, rfl, rfl⟩
  refine tl_pre (fun _ _ h => sl_new (k := 1) (n := 0) (cap := xs.length) (xs := []) h (by omega) (by simp) (by simp)) ?_
  refine tl_v rfl (o_assign rfl) ?_
  refine tl_nil ?_
  refine q_then_n ?_
  refine tc_seq ?_
  refine tc_seq ?_
  refine tc_reg ?_
  refine tl_v rfl (o_assign rfl) ?_
  refine tl_nil ?_
  refine q_then_n ?_
  refine tc_block ?_
  refine tc_loop (fun kk ρ BB => ∃ (i : Nat) (v : Value), (i ≤ xs.length) ∧ kk = xs.length - i ∧ ρ 0 = .slice a xs.length c ∧ ρ 3 = v ∧ ρ 4 = .int .i64 (i : Nat) ∧ BB = A * Sl 1 v (xs.take i).length (bys (xs.take i))) (m := xs.length - (0)) ?_ ?_
  · exact ⟨0, _, by omega, rfl, rfl, rfl, rfl, rfl⟩
  · intro k ρ B hI
    obtain ⟨i, v, hp0, rfl, hs0, hs3, hs4, rfl⟩ := hI
    refine tc_env (d := 0) hs0 ?_
    refine tc_env (d := 3) hs3 ?_
    refine tc_env (d := 4) hs4 ?_
    refine tc_seq ?_
    refine tc_seq ?_
    refine tc_reg ?_
    refine tl_v rfl (o_move rfl) ?_
    refine tl_v rfl (o_move rfl) ?_
    refine tl_v rfl (o_len Try.underlying28 rfl) ?_
    refine tl_v rfl (o_lss rfl rfl) ?_
    refine tl_nil ?_
    refine q_then_n ?_
    refine tc_cond rfl (fun h => ?_) (fun h => ?_)
    · simp only [decide_eq_true_eq] at h
      have hi' : i < xs.length := by omega
      obtain ⟨b, o, rfl, hc⟩ := hr.some (by rw [bys_length]; omega)
      have g1 := hc i _ (bys_at hi')
      refine tc_skip ?_
      refine q_then_n ?_
      refine tc_seq ?_
      refine tc_block ?_
      refine tc_reg ?_
      refine tl_v rfl (o_move rfl) ?_
      refine tl_v rfl (o_move rfl) ?_
      refine tl_v rfl (o_move rfl) ?_
      refine tl_v rfl (o_indexAddrN1 (j := i) Try.underlying28 sz5 rfl rfl (by omega)) ?_
      refine tl_v rfl (o_loadC p5 rfl g1.left) ?_
      refine tl_x rfl (o_buildSlice1 (v := .int .u8 (xs[i] : Nat)) Try.underlying28 sz5 z5 rfl rfl) ?_
      rintro _ _ ⟨b19, rfl, rfl⟩
      refine tl_x rfl (o_append1 Try.underlying28 Try.underlying28 sz5 by5 z5 rfl (by decide) (by decide) rfl rfl rfl rfl rfl (by rw [List.length_take]; omega)) ?_
      rintro u20 _ rfl
      refine tl_v rfl (o_assign rfl) ?_
      refine tl_nil ?_
      refine q_block_n (q_then_n ?_)
      refine tc_reg ?_
      refine tl_v rfl (o_move rfl) ?_
      refine tl_v rfl (by first | exact o_addI rfl rfl (by omega) | exact o_add rfl rfl) ?_
      refine tl_v rfl (o_assign rfl) ?_
      refine tl_nil ?_
      refine q_then_n ?_
      exact ⟨_, by omega, i + 1, u20, by omega, rfl, rfl, rfl, rfl, by rw [List.take_succ_eq_append_getElem hi', ← slb_snoc]⟩
    · try simp only [decide_eq_true_eq, decide_eq_false_iff_not, Bool.not_eq_true', Bool.not_eq_false', Option.isNone_some, Option.isNone_none, Bool.not_true, Bool.not_false] at h
      refine tc_exit ?_
      refine q_then_e (q_then_e (q_block_x (q_then_n ?_)))
      refine tc_seq ?_
      refine tc_reg ?_
      refine tl_v rfl (o_move rfl) ?_
      refine tl_v rfl (o_assign rfl) ?_
      refine tl_nil ?_
      refine q_then_n ?_
      refine tc_ret ?_
      obtain rfl : i = xs.length := by omega
      rw [List.take_length]
      exact ⟨v, res1 rfl rfl, rfl⟩

theorem Join_f (A : SP) (a : Option Addr) (c : Nat) (ls : List (List Nat)) (hr : RdRows A a ls) (hl : ls.flatten.length ≤ 17592186044416) (hl2 : ls.length ≤ 17592186044416) :
    Fn Try.prog 36 #[.slice a ls.length c] (A) (fun r B => B = A * Sl 1 r ls.flatten.length (bys ls.flatten)) := by
  refine fn_enter (args := [.slice a ls.length c]) Try.func36 rfl Try.ntmps36 (by simp) ?_
  obtain ⟨vs, hvl, hra, hrows⟩ := hr
  refine tc_seq ?_
  refine tc_reg ?_
  refine tl_v rfl (o_assign rfl) ?_
  refine tl_nil ?_
  refine q_then_n ?_
  refine tc_seq ?_
  refine tc_reg ?_
  refine tl_v rfl (o_assign rfl) ?_
  refine tl_nil ?_
  refine q_then_n ?_
  refine tc_seq ?_
  refine tc_seq ?_
  refine tc_reg ?_
  refine tl_pre (fun _ _ h => sl_nil (k := 1) h) ?_
  refine tl_v rfl (o_assign rfl) ?_
  refine tl_nil ?_
  refine q_then_n ?_
  refine tc_block ?_
  refine tc_loop (fun kk ρ BB => ∃ (i : Nat) (v : Value), (i ≤ ls.length) ∧ kk = ls.length - i ∧ ρ 0 = .slice a ls.length c ∧ ρ 3 = v ∧ ρ 4 = .int .i64 (i : Nat) ∧ BB = A * Sl 1 v (ls.take i).flatten.length (bys (ls.take i).flatten)) (m := ls.length - (0)) ?_ ?_
  · exact ⟨0, _, by omega, rfl, rfl, rfl, rfl, rfl⟩
  · intro k ρ B hI
    obtain ⟨i, v, hp0, rfl, hs0, hs3, hs4, rfl⟩ := hI
    refine tc_env (d := 0) hs0 ?_
    refine tc_env (d := 3) hs3 ?_
    refine tc_env (d := 4) hs4 ?_
    refine tc_seq ?_
    refine tc_seq ?_
    refine tc_reg ?_
    refine tl_v rfl (o_move rfl) ?_
    refine tl_v rfl (o_move rfl) ?_
    refine tl_v rfl (o_len Try.underlying33 rfl) ?_
    refine tl_v rfl (o_lss rfl rfl) ?_
    refine tl_nil ?_
    refine q_then_n ?_
    refine tc_cond rfl (fun h => ?_) (fun h => ?_)
    · simp only [decide_eq_true_eq] at h
      have hi' : i < ls.length := by omega
      obtain ⟨b, o, rfl, hc⟩ := hra.some (by omega)
      obtain ⟨bi, ci, e1, hri⟩ := hrows i hi'
      have g1 := hc i _ e1
      have hfl : (ls.take i).flatten.length + ls[i].length ≤ ls.flatten.length := by
        have e := List.take_append_drop i ls
        have e2 : ls.flatten.length = (ls.take i).flatten.length + (ls.drop i).flatten.length := by rw [← List.length_append, ← List.flatten_append, e]
        rw [e2, List.drop_eq_getElem_cons hi', List.flatten_cons, List.length_append]; omega
      refine tc_skip ?_
      refine q_then_n ?_
      refine tc_seq ?_
      refine tc_block ?_
      refine tc_seq ?_
      refine tc_reg ?_
      refine tl_v rfl (o_assign rfl) ?_
      refine tl_nil ?_
      refine q_then_n ?_
      refine tc_block ?_
      refine tc_loop (fun kk ρ BB => ∃ (j : Nat) (u : Value), (j ≤ ls[i].length) ∧ kk = ls[i].length - j ∧ ρ 0 = .slice (some ⟨b, o, none⟩) ls.length c ∧ ρ 3 = u ∧ ρ 4 = .int .i64 (i : Nat) ∧ ρ 5 = .int .i64 (j : Nat) ∧ BB = A * Sl 1 u ((ls.take i).flatten ++ ls[i].take j).length (bys ((ls.take i).flatten ++ ls[i].take j))) (m := ls[i].length - (0)) ?_ ?_
      · exact ⟨0, v, by omega, rfl, rfl, rfl, rfl, rfl, by rw [List.take_zero, List.append_nil]⟩
      · intro k ρ B hI
        obtain ⟨j, u, hp0, rfl, hs0, hs3, hs4, hs5, rfl⟩ := hI
        refine tc_env (d := 0) hs0 ?_
        refine tc_env (d := 3) hs3 ?_
        refine tc_env (d := 4) hs4 ?_
        refine tc_env (d := 5) hs5 ?_
        refine tc_seq ?_
        refine tc_seq ?_
        refine tc_reg ?_
        refine tl_v rfl (o_move rfl) ?_
        refine tl_v rfl (o_move rfl) ?_
        refine tl_v rfl (o_move rfl) ?_
        refine tl_v rfl (o_indexAddrN1 (j := i) Try.underlying33 sz28 rfl rfl (by omega)) ?_
        refine tl_v rfl (o_loadC p28 rfl g1.left) ?_
        refine tl_v rfl (o_len Try.underlying28 rfl) ?_
        refine tl_v rfl (o_lss rfl rfl) ?_
        refine tl_nil ?_
        refine q_then_n ?_
        refine tc_cond rfl (fun h => ?_) (fun h => ?_)
        · simp only [decide_eq_true_eq] at h
          have hj' : j < ls[i].length := by omega
          obtain ⟨bb, oo, rfl, hcc⟩ := hri.some (by rw [bys_length]; omega)
          have g2 := hcc j _ (bys_at hj')
          refine tc_skip ?_
          refine q_then_n ?_
          refine tc_seq ?_
          refine tc_block ?_
          refine tc_reg ?_
          refine tl_v rfl (o_move rfl) ?_
          refine tl_v rfl (o_move rfl) ?_
          refine tl_v rfl (o_move rfl) ?_
          refine tl_v rfl (o_indexAddrN1 (j := i) Try.underlying33 sz28 rfl rfl (by omega)) ?_
          refine tl_v rfl (o_loadC p28 rfl g1.left) ?_
          refine tl_v rfl (o_move rfl) ?_
          refine tl_v rfl (o_indexAddrN1 (j := j) Try.underlying28 sz5 rfl rfl (by omega)) ?_
          refine tl_v rfl (o_loadC p5 rfl g2.left) ?_
          refine tl_x rfl (o_buildSlice1 (v := .int .u8 (ls[i][j] : Nat)) Try.underlying28 sz5 z5 rfl rfl) ?_
          rintro _ _ ⟨b29, rfl, rfl⟩
          refine tl_x rfl (o_append1 Try.underlying28 Try.underlying28 sz5 by5 z5 rfl (by decide) (by decide) rfl rfl rfl rfl rfl (by rw [List.length_append, List.length_take]; omega)) ?_
          rintro u30 _ rfl
          refine tl_v rfl (o_assign rfl) ?_
          refine tl_nil ?_
          refine q_block_n (q_then_n ?_)
          refine tc_reg ?_
          refine tl_v rfl (o_move rfl) ?_
          refine tl_v rfl (by first | exact o_addI rfl rfl (by omega) | exact o_add rfl rfl) ?_
          refine tl_v rfl (o_assign rfl) ?_
          refine tl_nil ?_
          refine q_then_n ?_
          exact ⟨_, by omega, j + 1, u30, by omega, rfl, rfl, rfl, rfl, rfl, by rw [List.take_succ_eq_append_getElem hj', ← List.append_assoc, ← slb_snoc]⟩
        · simp only [decide_eq_false_iff_not] at h
          obtain rfl : j = ls[i].length := by omega
          rw [List.take_length]
          refine tc_exit ?_
          refine q_then_e (q_then_e (q_block_x (q_block_n (q_then_n ?_))))
          refine tc_reg ?_
          refine tl_v rfl (o_move rfl) ?_
          refine tl_v rfl (by first | exact o_addI rfl rfl (by omega) | exact o_add rfl rfl) ?_
          refine tl_v rfl (o_assign rfl) ?_
          refine tl_nil ?_
          refine q_then_n ?_
          exact ⟨_, by omega, i + 1, u, by omega, rfl, rfl, rfl, rfl, by rw [List.take_succ_eq_append_getElem hi', List.flatten_append, List.flatten_singleton]⟩
    · try simp only [decide_eq_true_eq, decide_eq_false_iff_not, Bool.not_eq_true', Bool.not_eq_false', Option.isNone_some, Option.isNone_none, Bool.not_true, Bool.not_false] at h
      refine tc_exit ?_
      refine q_then_e (q_then_e (q_block_x (q_then_n ?_)))
      refine tc_seq ?_
      refine tc_reg ?_
      refine tl_v rfl (o_move rfl) ?_
      refine tl_v rfl (o_assign rfl) ?_
      refine tl_nil ?_
      refine q_then_n ?_
      refine tc_ret ?_
      obtain rfl : i = ls.length := by omega
      rw [List.take_length]
      exact ⟨v, res1 rfl rfl, rfl⟩


theorem JoinN_f (A : SP) (a : Option Addr) (c n : Nat) (ls : List (List Nat)) (hr : RdRows A a ls) (hl : ls.flatten.length ≤ 17592186044416) (hl2 : ls.length ≤ 17592186044416) (hn : ls.length = n) :
    Fn Try.prog 36 #[.slice a n c] A (fun r B => B = A * Sl 1 r ls.flatten.length (bys ls.flatten)) := by subst hn; exact Join_f A a c ls hr hl hl2

end Go.Vl
