/- vellumlaw10: SuperBits. Conditions: none. -/
import Derived.Test.YtimckjnnjakcoaaU2
import Derived.Test.YtimckjnnjakcoaaP3
import Derived.Test.YtimckjnnjakcoaaT1
import Derived.Test.YtimckjnnjakcoaaRr
set_option linter.unusedVariables false
set_option linter.unusedSimpArgs false
namespace Go.Vl
open Go Go.Proofs


theorem fil_set {L : List Nat} {n i : Nat} (h : i < L.length) (hn : L.length ≤ n) : (L.take i ++ List.replicate (n - i) 0).set i L[i] = L.take (i + 1) ++ List.replicate (n - (i + 1)) 0 := by
  have e : n - i = (n - (i + 1)) + 1 := by omega
  have hl : (L.take i).length = i := by rw [List.length_take]; omega
  rw [List.set_append_right _ _ (by omega), hl, Nat.sub_self, e, List.replicate_succ, List.set_cons_zero, List.take_succ_eq_append_getElem h, List.append_assoc]; rfl
theorem sbB_lt (ns : List Nat) : ∀ x ∈ sbB ns, x < 256 := by
  intro x hx
  unfold sbB at hx
  rw [List.mem_append] at hx
  rcases hx with hx | hx
  · exact mbs_lt ns x hx
  · exact le_bytes 8 _ x hx
theorem xor_ne {a m : Nat} : a ^^^ 2 ^ m ≠ a := fun h => by
  have h1 : a ^^^ (a ^^^ 2 ^ m) = a ^^^ a := by rw [h]
  rw [← Nat.xor_assoc, Nat.xor_self, Nat.zero_xor] at h1
  exact absurd h1 (Nat.ne_of_gt (Nat.two_pow_pos m))
theorem planT_no {n : Int} {r : List Int} {e : Int} (h : ¬ (36992 ≤ n ∧ n ≤ 4194304 ∧ n % 64 = 0)) : planT n = ([0, 0, 0, 0, 0], 80) := planT_f h
theorem img_lenS {n : Nat} {xs : List Nat} (hb : ∀ x ∈ xs, x < 256) (hl : xs.length = n * 64) : (imgS (fromS n xs)).length = n * 64 := by rw [img_from hb hl, hl]
theorem Read_f {A R : SP} {C : SP → SP} {d : Nat} {n m : Nat} {xs : List Nat} (hc : Ct A (Dev d (fromS m xs)) R C) (hb : ∀ x ∈ xs, x < 256) (hl : xs.length = m * 64) (hm : m * 64 = n) (hn : 36992 ≤ n ∧ n ≤ 4194304 ∧ n % 64 = 0) {l : List Int} {e : Int} (hr : rdT n xs = (l, e)) :
    Fn Try.prog 48 #[.pointer (some ⟨d, 0, none⟩)] A (fun r B => r = .tuple #[.agg (ints l).toArray, .int .i64 e] ∧ A = B) := by
  have := Read_ok (n := n) hc rfl (by simp [fromS, newS]; exact hm) hn (by rw [img_lenS hb hl]; exact hm)
  rw [img_from hb hl, hr] at this; exact this

attribute [local irreducible] crk crL crc Sl pt ro mbs sbB planT Dev imgS fromS

set_option maxRecDepth 20000 in
set_option maxHeartbeats 1000000 in
theorem SuperBits_ok (A : SP) {n : Nat} (k : Int) (hn : 36992 ≤ n ∧ n ≤ 4194304 ∧ n % 64 = 0) :
    Fn Try.prog 9 #[.int .i64 (n : Int), .int .i64 k] (A) (fun r B => r = .bool true ∧ A = B) := by
  refine fn_enterW (args := [.int .i64 (n : Int), .int .i64 k]) Try.func9 rfl Try.ntmps9 (by simp) ?_
  obtain ⟨S, hS⟩ : ∃ S, S = sbB [n, 128, 32768, 32896, (n - 32896) / 256, 0] := ⟨_, rfl⟩
  have hSl : S.length = 64 := by rw [hS]; exact sbB_len rfl
  have hSb : ∀ x ∈ S, x < 256 := by rw [hS]; exact sbB_lt _
  obtain ⟨I, hI⟩ : ∃ I, I = S ++ List.replicate (n - 64) 0 := ⟨_, rfl⟩
  have hIl : I.length = n := by rw [hI, List.length_append, hSl, List.length_replicate]; omega
  have hIb : ∀ x ∈ I, x < 256 := by
    rw [hI]; intro x hx
    rw [List.mem_append] at hx
    rcases hx with hx | hx
    · exact hSb x hx
    · have := List.eq_of_mem_replicate hx; omega
  have hIt : I.take 64 = S := by rw [hI, ← hSl, List.take_left]
  obtain ⟨q, hq⟩ : ∃ q, q = k.tmod 512 := ⟨_, rfl⟩
  have hq1 : q < 512 := by rw [hq]; exact Int.tmod_lt_of_pos k (by decide)
  have hq2 : -512 < q := by rw [hq]; exact Int.lt_tmod_of_pos k (by decide)
  refine tc_seq ?_
  refine tc_reg ?_
  refine tl_v rfl (o_assign (by conv => lhs; whnf)) ?_
  refine tl_nil ?_
  refine q_then_n ?_
  refine tc_seq ?_
  refine tc_reg ?_
  refine tl_v rfl (o_move (by conv => lhs; whnf)) ?_
  refine tl_c rfl (o_call bd18 rfl (Plan_ok hn)) ?_
  rintro _ _ ⟨rfl, rfl⟩
  refine tl_v rfl (o_move (by conv => lhs; whnf)) ?_
  refine tl_v rfl (o_extract rfl rfl) ?_
  refine tl_v rfl (o_extract rfl rfl) ?_
  refine tl_x rfl (o_alloc z23 rfl) ?_
  rintro _ _ ⟨b5, rfl, rfl⟩
  refine tl_u rfl (o_stUN (l' := ints [(n : Int), ((128 : Nat) : Int), ((32768 : Nat) : Int), ((32896 : Nat) : Int), (((n - 32896) / 256 : Nat) : Int)]) rfl (by repeat (first | with_reducible exact upd_here | with_reducible exact upd_pt | apply upd_left)) sz23 rfl rfl rfl (by simp) rfl) ?_
  refine tl_v rfl (o_assign (by conv => lhs; whnf)) ?_
  refine tl_nil ?_
  refine q_then_n ?_
  refine tc_seq ?_
  refine tc_seq ?_
  refine tc_reg ?_
  refine tl_v rfl (o_move (by conv => lhs; whnf)) ?_
  refine tl_v rfl (o_nei rfl rfl) ?_
  refine tl_nil ?_
  refine q_then_n ?_
  refine tc_cond rfl (fun h => ?_) (fun h => ?_)
  · exfalso; simp at h
  · try simp only [decide_eq_true_eq, decide_eq_false_iff_not, Bool.not_eq_true', Bool.not_eq_false', Option.isNone_some, Option.isNone_none, Bool.not_true, Bool.not_false] at h
    refine tc_skip ?_
    refine q_then_n ?_
    refine tc_seq ?_
    refine tc_reg ?_
    refine tl_v rfl (o_loadN (vs := ints [(n : Int), ((128 : Nat) : Int), ((32768 : Nat) : Int), ((32896 : Nat) : Int), (((n - 32896) / 256 : Nat) : Int)]) a23 sz23 rfl (by repeat (first | with_reducible exact has_here | with_reducible exact has_pt | apply has_left)) (by show 5 ≤ 5; decide) rfl) ?_
    refine tl_c rfl (o_call bd20 rfl (Line_ok hn)) ?_
    rintro _ _ ⟨a31, c31, rfl, hc31, rfl⟩
    rw [← hS]
    refine tl_v rfl (o_move (by conv => lhs; whnf)) ?_
    refine tl_v rfl (o_extract rfl rfl) ?_
    refine tl_v rfl (o_extract rfl rfl) ?_
    refine tl_v rfl (o_assign (by conv => lhs; whnf)) ?_
    refine tl_v rfl (o_assign (by conv => lhs; whnf)) ?_
    refine tl_nil ?_
    refine q_then_n ?_
    refine tc_seq ?_
    refine tc_reg ?_
    refine tl_v rfl (o_move (by conv => lhs; whnf)) ?_
    refine tl_v rfl ((o_rem rfl rfl (by decide)).cast (congrArg (Value.int .i64) hq.symm)) ?_
    refine tl_v rfl (o_assign (by conv => lhs; whnf)) ?_
    refine tl_nil ?_
    refine q_then_n ?_
    refine tc_seq ?_
    refine tc_seq ?_
    refine tc_reg ?_
    refine tl_v rfl (o_move (by conv => lhs; whnf)) ?_
    refine tl_v rfl (o_lss rfl rfl) ?_
    refine tl_nil ?_
    refine q_then_n ?_
    refine tc_cut (fun ρ BB => ∃ (j : Nat), (j < 512) ∧ ρ 1 = .int .i64 (j : Nat) ∧ ρ 0 = .int .i64 (n : Int) ∧ ρ 5 = .pointer (some ⟨b5, 0, none⟩) ∧ ρ 6 = .int .i64 0 ∧ ρ 7 = .slice a31 64 c31 ∧ BB = A * pt b5 (cl (ints [(n : Int), ((128 : Nat) : Int), ((32768 : Nat) : Int), ((32896 : Nat) : Int), (((n - 32896) / 256 : Nat) : Int)]) 23) * Sl 1 (.slice a31 64 c31) 64 (bys S)) ?_ ?_
    · skip
      refine tc_cond rfl (fun h => ?_) (fun h => ?_)
      · try simp only [decide_eq_true_eq, decide_eq_false_iff_not, Bool.not_eq_true', Bool.not_eq_false', Option.isNone_some, Option.isNone_none, Bool.not_true, Bool.not_false] at h
        refine tc_reg ?_
        refine tl_v rfl (o_move (by conv => lhs; whnf)) ?_
        refine tl_v rfl (by first | exact o_addI rfl rfl (by omega) | exact o_add rfl rfl) ?_
        refine tl_v rfl (o_assign (by conv => lhs; whnf)) ?_
        refine tl_nil ?_
        exact ⟨(q + 512).toNat, (by omega), congrArg (Value.int .i64) (by omega), rfl, rfl, rfl, rfl, rfl⟩
      · try simp only [decide_eq_true_eq, decide_eq_false_iff_not, Bool.not_eq_true', Bool.not_eq_false', Option.isNone_some, Option.isNone_none, Bool.not_true, Bool.not_false] at h
        refine tc_skip ?_
        exact ⟨q.toNat, (by omega), congrArg (Value.int .i64) (by omega), rfl, rfl, rfl, rfl, rfl⟩
    · intro ρ B hI
      obtain ⟨j, hj0, hE1, hE0, hE5, hE6, hE7, rfl⟩ := hI
      refine q_then_n ?_
      refine tc_env (d := 1) hE1 ?_
      refine tc_env (d := 0) hE0 ?_
      refine tc_env (d := 5) hE5 ?_
      refine tc_env (d := 6) hE6 ?_
      refine tc_env (d := 7) hE7 ?_
      clear hE1 hE0 hE5 hE6 hE7
      refine tc_seq ?_
      refine tc_seq ?_
      refine tc_reg ?_
      refine tl_v rfl (o_move (by conv => lhs; whnf)) ?_
      refine tl_v rfl (o_nei rfl rfl) ?_
      refine tl_v rfl (o_move (by conv => lhs; whnf)) ?_
      refine tl_bool (d := 42) rfl (fun h => ?_) (fun h => ?_)
      · (exfalso; first | (revert h; simp; done) | (simp at h; done) | (revert h; simp; omega) | (simp at h; omega) | omega)
      · try simp only [decide_eq_true_eq, decide_eq_false_iff_not, Bool.not_eq_true', Bool.not_eq_false', Option.isNone_some, Option.isNone_none, Bool.not_true, Bool.not_false] at h
        refine tl_v rfl (o_move (by conv => lhs; whnf)) ?_
        refine tl_v rfl (o_len Try.underlying28 rfl) ?_
        refine tl_v rfl (o_nei rfl rfl) ?_
        refine tl_v rfl (o_pick_f rfl (by conv => lhs; whnf)) ?_
        refine tl_nil ?_
        refine q_then_n ?_
        refine tc_cond rfl (fun h => ?_) (fun h => ?_)
        · exfalso; simp at h
        · try simp only [decide_eq_true_eq, decide_eq_false_iff_not, Bool.not_eq_true', Bool.not_eq_false', Option.isNone_some, Option.isNone_none, Bool.not_true, Bool.not_false] at h
          refine tc_skip ?_
          refine q_then_n ?_
          refine tc_seq ?_
          refine tc_reg ?_
          refine tl_v rfl (o_move (by conv => lhs; whnf)) ?_
          refine tl_x rfl (o_makeSlice (len := n) (cap := n) Try.underlying28 sz5 by5 z5 rfl rfl rfl (by omega) (by omega) (by omega)) ?_
          rintro _ _ ⟨b48, rfl, rfl⟩
          refine tl_pre (fun _ _ h => sl_new (k := 1) (n := n) (cap := n) (xs := bys (List.replicate n 0)) h (by omega) (by simp) (by rw [Nat.mul_one, List.take_of_length_le (by simp)]; unfold bys; rw [List.map_replicate]; rfl)) ?_
          refine tl_v rfl (o_assign (by conv => lhs; whnf)) ?_
          refine tl_nil ?_
          refine q_then_n ?_
          refine tc_seq ?_
          refine tc_seq ?_
          refine tc_reg ?_
          refine tl_v rfl (o_assign (by conv => lhs; whnf)) ?_
          refine tl_nil ?_
          refine q_then_n ?_
          refine tc_block ?_
          refine tc_loop (fun kk ρ BB => ∃ (i : Nat), (i ≤ 64) ∧ kk = 64 - i ∧ ρ 9 = .int .i64 (i : Nat) ∧ ρ 1 = .int .i64 (j : Nat) ∧ ρ 5 = .pointer (some ⟨b5, 0, none⟩) ∧ ρ 7 = .slice a31 64 c31 ∧ ρ 8 = .slice (some ⟨b48, 0, none⟩) n n ∧ BB = A * pt b5 (cl (ints [(n : Int), ((128 : Nat) : Int), ((32768 : Nat) : Int), ((32896 : Nat) : Int), (((n - 32896) / 256 : Nat) : Int)]) 23) * Sl 1 (.slice a31 64 c31) 64 (bys S) * Sl 1 (.slice (some ⟨b48, 0, none⟩) n n) n (bys (S.take i ++ List.replicate (n - i) 0))) (m := 64 - (0)) ?_ ?_
          · exact ⟨0, by omega, rfl, rfl, rfl, rfl, rfl, rfl, rfl⟩
          · intro k ρ B hI
            obtain ⟨i, hp0, hkk1, hE9, hE1, hE5, hE7, hE8, rfl⟩ := hI
            refine tc_env (d := 9) hE9 ?_
            refine tc_env (d := 1) hE1 ?_
            refine tc_env (d := 5) hE5 ?_
            refine tc_env (d := 7) hE7 ?_
            refine tc_env (d := 8) hE8 ?_
            clear hE9 hE1 hE5 hE7 hE8
            refine tc_seq ?_
            refine tc_seq ?_
            refine tc_reg ?_
            refine tl_v rfl (o_move (by conv => lhs; whnf)) ?_
            refine tl_v rfl (o_lss rfl rfl) ?_
            refine tl_nil ?_
            refine q_then_n ?_
            refine tc_cond rfl (fun h => ?_) (fun h => ?_)
            · have hi : i < S.length := by simp at h; omega
              have hSx := hSb _ (List.getElem_mem hi)
              refine tc_skip ?_
              refine q_then_n ?_
              refine tc_seq ?_
              refine tc_block ?_
              refine tc_reg ?_
              refine tl_v rfl (o_move (by conv => lhs; whnf)) ?_
              refine tl_v rfl (o_move (by conv => lhs; whnf)) ?_
              refine tl_v rfl (o_move (by conv => lhs; whnf)) ?_
              refine tl_v rfl (o_move (by conv => lhs; whnf)) ?_
              refine tl_v rfl (o_ixP1 Try.underlying28 sz5 rfl rfl (by first | omega | (simp only [bys_length, ints_length, wds_length, bos_length, List.length_append, List.length_take, List.length_drop, List.length_singleton]; omega)) (by repeat (first | exact nn_some | with_reducible exact nn_sl (by decide) | exact nn_rs (by assumption) (fun _ => by first | omega | (simp only [bys_length, ints_length, wds_length, bos_length, List.length_append, List.length_take, List.length_drop, List.length_singleton]; omega)) | apply Nn.left))) ?_
              refine tl_v rfl (o_ldP p5 rfl (by repeat (first | assumption | with_reducible exact rs_sl | with_reducible exact rs_pt0 | exact rs_none | apply Rs.left)) (by first | assumption | exact bys_at (by omega) | exact ints_at (by omega) | exact wds_at (by omega) | exact bos_at (by omega) | rfl)) ?_
              refine tl_v rfl (o_ixP1 Try.underlying28 sz5 rfl rfl (by first | omega | (simp only [bys_length, ints_length, wds_length, bos_length, List.length_append, List.length_take, List.length_drop, List.length_singleton]; omega)) (by repeat (first | exact nn_some | with_reducible exact nn_sl (by decide) | exact nn_rs (by assumption) (fun _ => by first | omega | (simp only [bys_length, ints_length, wds_length, bos_length, List.length_append, List.length_take, List.length_drop, List.length_singleton]; omega)) | apply Nn.left))) ?_
              refine tl_u rfl (o_stP sz5 rfl rfl rfl (by repeat (first | with_reducible exact ct_here | apply ct_left)) (by omega) (by first | exact bys_set _ _ _ | exact ints_set _ _ _ | exact wds_set' _ _ _ | exact bos_set _ _ _ | rfl)) ?_
              refine tl_nil ?_
              refine q_block_n (q_then_n ?_)
              refine tc_reg ?_
              refine tl_v rfl (o_move (by conv => lhs; whnf)) ?_
              refine tl_v rfl (by first | exact o_addI rfl rfl (by omega) | exact o_add rfl rfl) ?_
              refine tl_v rfl (o_assign (by conv => lhs; whnf)) ?_
              refine tl_nil ?_
              refine q_then_n ?_
              exact ⟨_, by omega, i + 1, by omega, rfl, rfl, rfl, rfl, rfl, rfl, (by rw [← fil_set hi (by omega)])⟩
            · obtain rfl : i = 64 := by simp at h; omega
              rw [← hSl, List.take_length, hSl, ← hI]
              refine tc_exit ?_
              refine q_then_e (q_then_e (q_block_x (q_then_n ?_)))
              refine tc_seq ?_
              refine tc_reg ?_
              refine tl_v rfl (o_move (by conv => lhs; whnf)) ?_
              refine tl_c rfl (o_call bd42 rfl (From_c (n := n / 64) (xs := I))) ?_
              rintro _ _ ⟨d62, rfl, rfl⟩
              refine tl_v rfl (o_move (by conv => lhs; whnf)) ?_
              refine tl_v rfl (o_extract rfl rfl) ?_
              refine tl_v rfl (o_extract rfl rfl) ?_
              refine tl_v rfl (o_assign (by conv => lhs; whnf)) ?_
              refine tl_v rfl (o_assign (by conv => lhs; whnf)) ?_
              refine tl_nil ?_
              refine q_then_n ?_
              refine tc_seq ?_
              refine tc_reg ?_
              refine tl_v rfl (o_move (by conv => lhs; whnf)) ?_
              have hr1 := rdT_t (n := n) (I := I) (by rw [hIt, hS])
              refine tl_c rfl (o_call bd48 rfl (Read_f (n := n) (m := n / 64) (xs := I) (by repeat (first | with_reducible exact ct_here | apply ct_left)) hIb (by omega) (by omega) hn hr1)) ?_
              rintro _ _ ⟨rfl, rfl⟩
              refine tl_v rfl (o_move (by conv => lhs; whnf)) ?_
              refine tl_v rfl (o_extract rfl rfl) ?_
              refine tl_v rfl (o_extract rfl rfl) ?_
              refine tl_x rfl (o_alloc z23 rfl) ?_
              rintro _ _ ⟨b11, rfl, rfl⟩
              refine tl_u rfl (o_stUN (l' := ints [(n : Int), ((128 : Nat) : Int), ((32768 : Nat) : Int), ((32896 : Nat) : Int), (((n - 32896) / 256 : Nat) : Int)]) rfl (by repeat (first | with_reducible exact upd_here | with_reducible exact upd_pt | apply upd_left)) sz23 rfl rfl rfl (by simp) rfl) ?_
              refine tl_v rfl (o_assign (by conv => lhs; whnf)) ?_
              refine tl_nil ?_
              refine q_then_n ?_
              refine tc_seq ?_
              have hj8 : j / 8 < I.length := by omega
              have hx8 := hIb _ (List.getElem_mem hj8)
              have h2p : 2 ^ (j % 8) < 256 := by
                have : 2 ^ (j % 8) ≤ 2 ^ 7 := Nat.pow_le_pow_right (by decide) (by omega)
                omega
              have hx9 : I[j / 8] ^^^ 2 ^ (j % 8) < 256 := Nat.xor_lt_two_pow (n := 8) (by omega) (by omega)
              obtain ⟨I2, hI2⟩ : ∃ I2, I2 = I.set (j / 8) (I[j / 8] ^^^ 2 ^ (j % 8)) := ⟨_, rfl⟩
              have hI2l : I2.length = n := by rw [hI2, List.length_set]; exact hIl
              have hI2b : ∀ x ∈ I2, x < 256 := by
                rw [hI2]; intro x hx
                rcases List.mem_or_eq_of_mem_set hx with hx | hx
                · exact hIb x hx
                · omega
              have hI2t : I2.take 64 ≠ sbB [n, 128, 32768, 32896, (n - 32896) / 256, 0] := by
                rw [← hS, ← hIt, hI2]
                intro e
                have e1 := congrArg (fun l => l[j / 8]?) e
                simp only [List.getElem?_take, show j / 8 < 64 by omega, if_true, List.getElem?_set_self hj8, List.getElem?_eq_getElem hj8, Option.some.injEq] at e1
                exact xor_ne e1
              have hr2 := rdT_f hI2t
              refine tc_regh (S := A) mo (by repeat (first | with_reducible exact dr_refl | apply dr_keep | apply dr_drop)) ?_
              show TH _ _ _ _ _ 14 #[false, false, false, false, false, false, false, false, false, false, false, false, false, false] _ _
              refine th_take (i := 0) (listed' := #[true, false, false, false, false, false, false, false, false, false, false, false, false, false]) rfl (by kernel_rfl) (by kernel_rfl) (by kernel_rfl) rfl rfl (o_move (by conv => lhs; whnf)) ?_
              refine th_take (i := 1) (listed' := #[true, true, false, false, false, false, false, false, false, false, false, false, false, false]) rfl (by kernel_rfl) (by kernel_rfl) (by kernel_rfl) rfl rfl (o_move (by conv => lhs; whnf)) ?_
              refine th_take (i := 2) (listed' := #[true, true, true, false, false, false, false, false, false, false, false, false, false, false]) rfl (by kernel_rfl) (by kernel_rfl) (by kernel_rfl) rfl rfl (o_quoN (b := 8) rfl rfl (by omega)) ?_
              refine th_take (i := 3) (listed' := #[true, true, true, true, false, false, false, false, false, false, false, false, false, false]) rfl (by kernel_rfl) (by kernel_rfl) (by kernel_rfl) rfl rfl (o_move (by conv => lhs; whnf)) ?_
              refine th_take (i := 4) (listed' := #[true, true, true, true, true, false, false, false, false, false, false, false, false, false]) rfl (by kernel_rfl) (by kernel_rfl) (by kernel_rfl) rfl rfl (o_move (by conv => lhs; whnf)) ?_
              refine th_take (i := 5) (listed' := #[true, true, true, true, true, true, false, false, false, false, false, false, false, false]) rfl (by kernel_rfl) (by kernel_rfl) (by kernel_rfl) rfl rfl (o_quoN (b := 8) rfl rfl (by omega)) ?_
              refine th_take (i := 6) (listed' := #[true, true, true, true, true, true, true, false, false, false, false, false, false, false]) rfl (by kernel_rfl) (by kernel_rfl) (by kernel_rfl) rfl rfl (o_ixP1 Try.underlying28 sz5 rfl rfl (by first | omega | (simp only [bys_length, ints_length, wds_length, bos_length, List.length_append, List.length_take, List.length_drop, List.length_singleton]; omega)) (by repeat (first | exact nn_some | with_reducible exact nn_sl (by decide) | exact nn_rs (by assumption) (fun _ => by first | omega | (simp only [bys_length, ints_length, wds_length, bos_length, List.length_append, List.length_take, List.length_drop, List.length_singleton]; omega)) | apply Nn.left))) ?_
              refine th_take (i := 8) (listed' := #[true, true, true, true, true, true, true, false, true, false, false, false, false, false]) rfl (by kernel_rfl) (by kernel_rfl) (by kernel_rfl) rfl rfl (o_move (by conv => lhs; whnf)) ?_
              refine th_take (i := 9) (listed' := #[true, true, true, true, true, true, true, false, true, true, false, false, false, false]) rfl (by kernel_rfl) (by kernel_rfl) (by kernel_rfl) rfl rfl (o_remN (b := 8) rfl rfl (by omega)) ?_
              refine th_take (i := 10) (listed' := #[true, true, true, true, true, true, true, false, true, true, true, false, false, false]) rfl (by kernel_rfl) (by kernel_rfl) (by kernel_rfl) rfl rfl (o_shlm (a := 1) (b := j % 8) rfl rfl rfl rfl (by show _ ≤ 8; omega)) ?_
              refine th_env (d := 80) (v := .int .u8 ((2 ^ (j % 8) : Nat) : Int)) (congrArg (fun z : Nat => Value.int .u8 (z : Int)) (show 1 * 2 ^ (j % 8) % 256 = 2 ^ (j % 8) by omega)) ?_
              refine th_one (i := 7) (by kernel_rfl) ?_
              refine oh_v (i := 7) (listed' := #[true, true, true, true, true, true, true, true, true, true, true, false, false, false]) rfl rfl rfl (o_ldP p5 rfl (by repeat (first | assumption | with_reducible exact rs_sl | with_reducible exact rs_pt0 | exact rs_none | apply Rs.left)) (by first | assumption | exact bys_at (by omega) | exact ints_at (by omega) | exact wds_at (by omega) | exact bos_at (by omega) | rfl)) ?_
              refine th_take (i := 11) (listed' := #[true, true, true, true, true, true, true, true, true, true, true, true, false, false]) rfl (by kernel_rfl) (by kernel_rfl) (by kernel_rfl) rfl rfl (o_xorN rfl rfl rfl (by show _ < 256; exact hx8) (by show _ < 256; exact h2p)) ?_
              refine th_take (i := 12) (listed' := #[true, true, true, true, true, true, true, true, true, true, true, true, true, false]) rfl (by kernel_rfl) (by kernel_rfl) (by kernel_rfl) rfl rfl (o_ixP1 Try.underlying28 sz5 rfl rfl (by first | omega | (simp only [bys_length, ints_length, wds_length, bos_length, List.length_append, List.length_take, List.length_drop, List.length_singleton]; omega)) (by repeat (first | exact nn_some | with_reducible exact nn_sl (by decide) | exact nn_rs (by assumption) (fun _ => by first | omega | (simp only [bys_length, ints_length, wds_length, bos_length, List.length_append, List.length_take, List.length_drop, List.length_singleton]; omega)) | apply Nn.left))) ?_
              refine th_one (i := 13) (by kernel_rfl) ?_
              refine oh_u (i := 13) (listed' := #[true, true, true, true, true, true, true, true, true, true, true, true, true, true]) rfl rfl rfl (o_stP (ys := bys I2) sz5 rfl rfl rfl (by repeat (first | with_reducible exact ct_here | apply ct_left)) (by omega) (by rw [hI2]; exact bys_set _ _ _)) (by repeat (first | with_reducible exact dr_refl | apply dr_keep | apply dr_drop)) ?_
              refine th_done (by kernel_rfl) ?_
              refine q_then_n ?_
              refine tc_seq ?_
              refine tc_reg ?_
              refine tl_v rfl (o_move (by conv => lhs; whnf)) ?_
              refine tl_c rfl (o_call bd42 rfl (From_c (n := n / 64) (xs := I2))) ?_
              rintro _ _ ⟨d85, rfl, rfl⟩
              refine tl_v rfl (o_move (by conv => lhs; whnf)) ?_
              refine tl_v rfl (o_extract rfl rfl) ?_
              refine tl_v rfl (o_extract rfl rfl) ?_
              refine tl_v rfl (o_assign (by conv => lhs; whnf)) ?_
              refine tl_v rfl (o_assign (by conv => lhs; whnf)) ?_
              refine tl_nil ?_
              refine q_then_n ?_
              refine tc_seq ?_
              refine tc_reg ?_
              refine tl_v rfl (o_move (by conv => lhs; whnf)) ?_
              refine tl_c rfl (o_call bd48 rfl (Read_f (n := n) (m := n / 64) (xs := I2) (by repeat (first | with_reducible exact ct_here | apply ct_left)) hI2b (by omega) (by omega) hn hr2)) ?_
              rintro _ _ ⟨rfl, rfl⟩
              refine tl_v rfl (o_move (by conv => lhs; whnf)) ?_
              refine tl_v rfl (o_extract rfl rfl) ?_
              refine tl_v rfl (o_extract rfl rfl) ?_
              refine tl_x rfl (o_alloc z23 rfl) ?_
              rintro _ _ ⟨b15, rfl, rfl⟩
              refine tl_u rfl (o_stUN (l' := ints [0, 0, 0, 0, 0]) rfl (by repeat (first | with_reducible exact upd_here | with_reducible exact upd_pt | apply upd_left)) sz23 rfl rfl rfl (by simp) rfl) ?_
              refine tl_v rfl (o_assign (by conv => lhs; whnf)) ?_
              refine tl_nil ?_
              refine q_then_n ?_
              refine tc_seq ?_
              refine tc_reg ?_
              refine tl_v rfl (o_move (by conv => lhs; whnf)) ?_
              refine tl_v rfl (o_eqi rfl rfl) ?_
              refine tl_v rfl (o_move (by conv => lhs; whnf)) ?_
              refine tl_bool (d := 95) rfl (fun h => ?_) (fun h => ?_)
              · try simp only [decide_eq_true_eq, decide_eq_false_iff_not, Bool.not_eq_true', Bool.not_eq_false', Option.isNone_some, Option.isNone_none, Bool.not_true, Bool.not_false] at h
                refine tl_v rfl (o_move (by conv => lhs; whnf)) ?_
                refine tl_v rfl (o_eqi rfl rfl) ?_
                refine tl_v rfl (o_pick_t rfl (by conv => lhs; whnf)) ?_
                refine tl_v rfl (o_move (by conv => lhs; whnf)) ?_
                refine tl_bool (d := 99) rfl (fun h => ?_) (fun h => ?_)
                · try simp only [decide_eq_true_eq, decide_eq_false_iff_not, Bool.not_eq_true', Bool.not_eq_false', Option.isNone_some, Option.isNone_none, Bool.not_true, Bool.not_false] at h
                  refine tl_v rfl (o_loadN (vs := ints [(n : Int), ((128 : Nat) : Int), ((32768 : Nat) : Int), ((32896 : Nat) : Int), (((n - 32896) / 256 : Nat) : Int)]) a23 sz23 rfl (by repeat (first | with_reducible exact has_here | with_reducible exact has_pt | apply has_left)) (by show 5 ≤ 5; decide) rfl) ?_
                  refine tl_v rfl (o_loadN (vs := ints [(n : Int), ((128 : Nat) : Int), ((32768 : Nat) : Int), ((32896 : Nat) : Int), (((n - 32896) / 256 : Nat) : Int)]) a23 sz23 rfl (by repeat (first | with_reducible exact has_here | with_reducible exact has_pt | apply has_left)) (by show 5 ≤ 5; decide) rfl) ?_
                  refine tl_v rfl (o_eqst (k := 5) (l := [(n : Int), ((128 : Nat) : Int), ((32768 : Nat) : Int), ((32896 : Nat) : Int), (((n - 32896) / 256 : Nat) : Int)]) (m := [(n : Int), ((128 : Nat) : Int), ((32768 : Nat) : Int), ((32896 : Nat) : Int), (((n - 32896) / 256 : Nat) : Int)]) Try.underlying23 (by kernel_rfl) (by kernel_rfl) (by kernel_rfl) rfl rfl rfl rfl) ?_
                  refine tl_v rfl (o_pick_t rfl (by conv => lhs; whnf)) ?_
                  refine tl_v rfl (o_move (by conv => lhs; whnf)) ?_
                  refine tl_bool (d := 104) rfl (fun h => ?_) (fun h => ?_)
                  · try simp only [decide_eq_true_eq, decide_eq_false_iff_not, Bool.not_eq_true', Bool.not_eq_false', Option.isNone_some, Option.isNone_none, Bool.not_true, Bool.not_false] at h
                    refine tl_v rfl (o_move (by conv => lhs; whnf)) ?_
                    refine tl_v rfl (o_eqi rfl rfl) ?_
                    refine tl_v rfl (o_pick_t rfl (by conv => lhs; whnf)) ?_
                    refine tl_v rfl (o_move (by conv => lhs; whnf)) ?_
                    refine tl_bool (d := 108) rfl (fun h => ?_) (fun h => ?_)
                    · try simp only [decide_eq_true_eq, decide_eq_false_iff_not, Bool.not_eq_true', Bool.not_eq_false', Option.isNone_some, Option.isNone_none, Bool.not_true, Bool.not_false] at h
                      refine tl_v rfl (o_move (by conv => lhs; whnf)) ?_
                      refine tl_v rfl (o_eqi rfl rfl) ?_
                      refine tl_v rfl (o_pick_t rfl (by conv => lhs; whnf)) ?_
                      refine tl_v rfl (o_move (by conv => lhs; whnf)) ?_
                      refine tl_bool (d := 112) rfl (fun h => ?_) (fun h => ?_)
                      · try simp only [decide_eq_true_eq, decide_eq_false_iff_not, Bool.not_eq_true', Bool.not_eq_false', Option.isNone_some, Option.isNone_none, Bool.not_true, Bool.not_false] at h
                        refine tl_c rfl (o_call bd24 rfl (works_c)) ?_
                        rintro _ _ ⟨rfl, rfl⟩
                        refine tl_v rfl (o_pick_t rfl (by conv => lhs; whnf)) ?_
                        refine tl_v rfl (o_assign (by conv => lhs; whnf)) ?_
                        refine tl_nil ?_
                        refine q_then_n ?_
                        refine tc_ret ?_
                        exact ⟨.bool true, A, res1 rfl rfl, Dr.sat (by repeat (first | with_reducible exact dr_refl | apply dr_keep | apply dr_drop)), rfl, rfl⟩
                      · (exfalso; first | (revert h; simp; done) | (simp at h; done) | (revert h; simp; omega) | (simp at h; omega) | omega)
                    · (exfalso; first | (revert h; simp; done) | (simp at h; done) | (revert h; simp; omega) | (simp at h; omega) | omega)
                  · (exfalso; first | (revert h; simp; done) | (simp at h; done) | (revert h; simp; omega) | (simp at h; omega) | omega)
                · (exfalso; first | (revert h; simp; done) | (simp at h; done) | (revert h; simp; omega) | (simp at h; omega) | omega)
              · (exfalso; first | (revert h; simp; done) | (simp at h; done) | (revert h; simp; omega) | (simp at h; omega) | omega)

set_option maxRecDepth 20000 in
set_option maxHeartbeats 1000000 in
theorem SuperBits_no (A : SP) {n : Int} (k : Int) (hn : ¬ (36992 ≤ n ∧ n ≤ 4194304 ∧ n % 64 = 0)) :
    Fn Try.prog 9 #[.int .i64 n, .int .i64 k] (A) (fun r B => r = .bool true ∧ A = B) := by
  refine fn_enterW (args := [.int .i64 n, .int .i64 k]) Try.func9 rfl Try.ntmps9 (by simp) ?_
  refine tc_seq ?_
  refine tc_reg ?_
  refine tl_v rfl (o_assign (by conv => lhs; whnf)) ?_
  refine tl_nil ?_
  refine q_then_n ?_
  refine tc_seq ?_
  refine tc_reg ?_
  refine tl_v rfl (o_move (by conv => lhs; whnf)) ?_
  refine tl_c rfl (o_call bd18 rfl (Plan_q (planT_f hn))) ?_
  rintro _ _ ⟨rfl, rfl⟩
  refine tl_v rfl (o_move (by conv => lhs; whnf)) ?_
  refine tl_v rfl (o_extract rfl rfl) ?_
  refine tl_v rfl (o_extract rfl rfl) ?_
  refine tl_x rfl (o_alloc z23 rfl) ?_
  rintro _ _ ⟨b5, rfl, rfl⟩
  refine tl_u rfl (o_stUN (l' := ints [0, 0, 0, 0, 0]) rfl (by repeat (first | with_reducible exact upd_here | with_reducible exact upd_pt | apply upd_left)) sz23 rfl rfl rfl (by simp) rfl) ?_
  refine tl_v rfl (o_assign (by conv => lhs; whnf)) ?_
  refine tl_nil ?_
  refine q_then_n ?_
  refine tc_seq ?_
  refine tc_seq ?_
  refine tc_reg ?_
  refine tl_v rfl (o_move (by conv => lhs; whnf)) ?_
  refine tl_v rfl (o_nei rfl rfl) ?_
  refine tl_nil ?_
  refine q_then_n ?_
  refine tc_cond rfl (fun h => ?_) (fun h => ?_)
  · try simp only [decide_eq_true_eq, decide_eq_false_iff_not, Bool.not_eq_true', Bool.not_eq_false', Option.isNone_some, Option.isNone_none, Bool.not_true, Bool.not_false] at h
    refine tc_seq ?_
    refine tc_reg ?_
    refine tl_v rfl (o_move (by conv => lhs; whnf)) ?_
    refine tl_v rfl (o_eqi rfl rfl) ?_
    refine tl_v rfl (o_move (by conv => lhs; whnf)) ?_
    refine tl_bool (d := 26) rfl (fun h => ?_) (fun h => ?_)
    · try simp only [decide_eq_true_eq, decide_eq_false_iff_not, Bool.not_eq_true', Bool.not_eq_false', Option.isNone_some, Option.isNone_none, Bool.not_true, Bool.not_false] at h
      refine tl_c rfl (o_call bd24 rfl (works_c)) ?_
      rintro _ _ ⟨rfl, rfl⟩
      refine tl_v rfl (o_pick_t rfl (by conv => lhs; whnf)) ?_
      refine tl_v rfl (o_assign (by conv => lhs; whnf)) ?_
      refine tl_nil ?_
      refine q_then_n ?_
      refine tc_ret ?_
      refine q_then_r ?_
      exact ⟨.bool true, A, res1 rfl rfl, Dr.sat (by repeat (first | with_reducible exact dr_refl | apply dr_keep | apply dr_drop)), rfl, rfl⟩
    · (exfalso; first | (revert h; simp; done) | (simp at h; done) | (revert h; simp; omega) | (simp at h; omega) | omega)
  · exfalso; simp at h


theorem SuperBits_L (F : SP) (v : Value) (n : Int) (hn : PInt .i64 [v] n) (v2 : Value) (k : Int) (hk : PInt .i64 [v2] k) : Fn Try.prog 9 #[v, v2] F (fun r B => r = .bool true ∧ B = F) := by
  obtain ⟨e, _⟩ := hn
  obtain ⟨e2, _⟩ := hk
  simp only [List.cons.injEq, and_true] at e e2
  subst e e2
  by_cases h : 36992 ≤ n ∧ n ≤ 4194304 ∧ n % 64 = 0
  · obtain ⟨m, rfl⟩ : ∃ m : Nat, n = (m : Int) := ⟨n.toNat, by omega⟩
    exact (SuperBits_ok F k (by omega)).mono fun _ _ h => ⟨h.1, h.2.symm⟩
  · exact (SuperBits_no F k h).mono fun _ _ h => ⟨h.1, h.2.symm⟩

end Go.Vl
