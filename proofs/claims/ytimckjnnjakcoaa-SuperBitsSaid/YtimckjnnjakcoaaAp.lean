/- The reference's Apart: lists of bytes that are owned share no memory. Conditions: none. -/
import Derived.Test.YtimckjnnjakcoaaPV
set_option linter.unusedVariables false
set_option linter.unusedSimpArgs false
namespace Go.Vl
open Go Go.Proofs


theorem o_apGr {P : Program} {n : Nat} {ρ : Env} {A : SP} {dst : Option Tmp} {ty : TypeId} {pos : String} {after : Array Edge} {gd : Option (Nat × Bool)} {t t' e e' : TypeId} {x y : Operand} {v z : Value} {p m q bytes c c0 b : Nat} {a : Option Addr} {os xs ys zs : List Value} {A0 R : SP} {C : SP → SP} {E : TypeId}
    (hu : P.underlying t = some (.slice e)) (hu' : P.underlying t' = some (.slice e')) (hk : szE P e = some 1) (hb : bytesE P e = some bytes) (hz : zeroE P e = some z) (hzk : z.cells.size = 1) (hb0 : 0 < bytes)
    (hx : ev n ρ x = .slice a q c0) (hy : ev n ρ y = .slice (some ⟨b, 0, none⟩) m c) (hA : A = A0 * pt b (cl ys E)) (hf : Ct A0 (Gr v p os (.slice a q c0) q xs) R C) (hm : ys.length = m) (ho : ys.all oneC = true) (hlim : (q + m) * bytes ≤ 140737488355328) (he : xs ++ ys = zs) :
    OpX P n ρ A ⟨dst, .call { callee := .builtin .append, args := #[x, y], argTypes := #[t, t'] }, ty, pos, after, gd⟩ (fun v' B => ∃ a' c', v' = .slice a' (q + m) c' ∧ q + m ≤ c' ∧ B = C (Gr v p os (.slice a' (q + m) c') (q + m) zs)) := fun g w hs => by
  subst he
  obtain ⟨rfl, hC⟩ := hf
  obtain ⟨v', w', B, hr, hB, rfl⟩ := o_appendGr (dst := dst) (ty := ty) (pos := pos) (after := after) (gd := gd) (R := R * pt b (cl ys E)) hu hu' hk hb hz hzk hb0 hx hy (by rw [hA, star_swap])
    (rd_cells (cells_of_has (k := ys.length) (by rw [hA]; exact has_here) (by simp))) hm (fun u hu => List.all_eq_true.1 ho u hu) hlim g w hs
  have hB2 : sat g w' (R * Gr v p os v' (q + m) (xs ++ ys)) := hB.drop2
  obtain ⟨_, _, a', c', _, e2, _, _, _, g2, _⟩ := gr_have hB2
  subst e2
  exact ⟨_, w', _, hr, hB2, a', c', rfl, g2, (hC _).symm⟩


/-- The mark of a place. -/
def mk (i k : Nat) : Nat := (i * 31 + k * 7 + 1) % 256
/-- The marks of a list. -/
def mks (i n : Nat) : List Nat := (List.range n).map (mk i)
theorem mks_length (i n : Nat) : (mks i n).length = n := by simp [mks]
theorem mks_succ (i n : Nat) : mks i (n + 1) = mks i n ++ [mk i n] := by simp [mks, List.range_succ]
theorem mks_at {i n k : Nat} (h : k < n) : (bys (mks i n))[k]? = some (.int .u8 ((mk i k : Nat) : Int)) := by simp [bys, mks, h, b8]
theorem mks_pm (i : Nat) (l : List Nat) : pm (fun k _ => mk i k) l.length l = mks i l.length := by
  rw [pm_all]
  apply List.ext_getElem?
  intro j
  simp only [mks, List.getElem?_mapIdx, List.getElem?_map, List.getElem?_range']
  rcases Nat.lt_or_ge j l.length with h | h
  · simp [h]
  · simp [h]
def mkL (j : Nat) (l : List Nat) : List Nat := mks j l.length
/-- Lists that bear their marks; the first of them is number j. -/
def PM : Nat → List Value → List Nat → SP
  | j, v :: vs, n :: ns => PM (j + 1) vs ns * Sl 1 v n (bys (mks j n))
  | _, [], [] => emp
  | _, _, _ => pure_ False
/-- Such lists, and what they were grown to. -/
def GP : Nat → List Value → List Value → List Nat → SP
  | j, v :: vs, g :: gs, n :: ns => GP (j + 1) vs gs ns * Gr v n (bys (mks j n)) g (n + 70) (bys (mks j (n + 70)))
  | _, [], [], [] => emp
  | _, _, _, _ => pure_ False
theorem parts_PM : ∀ {vs : List Value} {ls : List (List Nat)} {j : Nat}, vs.length = ls.length → Parts vs (ls.mapIdx fun i l => mks (j + i) l.length) = PM j vs (ls.map List.length)
  | [], [], _, _ => rfl
  | v :: vs, l :: ls, j, h => by
    have ih := parts_PM (vs := vs) (ls := ls) (j := j + 1) (by simpa using h)
    rw [List.mapIdx_cons]
    show Parts vs (ls.mapIdx fun i l => mks (j + (i + 1)) l.length) * Sl 1 v (mks (j + 0) l.length).length (bys (mks (j + 0) l.length)) = PM (j + 1) vs (ls.map List.length) * Sl 1 v l.length (bys (mks j l.length))
    rw [mks_length, Nat.add_zero, ← ih]
    congr 2
    apply List.ext_getElem?
    intro i
    simp only [List.getElem?_mapIdx, show j + (i + 1) = j + 1 + i by omega]
theorem GP_snoc : ∀ {vs gs : List Value} {ns : List Nat} {j : Nat} {v g : Value} {n : Nat} (_ : vs.length = ns.length) (_ : gs.length = ns.length), GP j (vs ++ [v]) (gs ++ [g]) (ns ++ [n]) = GP j vs gs ns * Gr v n (bys (mks (j + ns.length) n)) g (n + 70) (bys (mks (j + ns.length) (n + 70)))
  | [], [], [], _, _, _, _, _, _ => rfl
  | [], _ :: _, [], _, _, _, _, _, h => by simp at h
  | [], _ :: _, _ :: _, _, _, _, _, h, _ => by simp at h
  | [], [], _ :: _, _, _, _, _, h, _ => by simp at h
  | _ :: _, [], [], _, _, _, _, h, _ => by simp at h
  | _ :: _, [], _ :: _, _, _, _, _, _, h => by simp at h
  | _ :: _, _ :: _, [], _, _, _, _, h, _ => by simp at h
  | u :: vs, h :: gs, x :: ns, j, v, g, n, h1, h2 => by
    show GP (j + 1) (vs ++ [v]) (gs ++ [g]) (ns ++ [n]) * Gr u x _ h _ _ = _
    rw [GP_snoc (by simpa using h1) (by simpa using h2)]
    show _ = GP (j + 1) vs gs ns * Gr u x (bys (mks j x)) h (x + 70) (bys (mks j (x + 70))) * _
    rw [star_swap, List.length_cons, show j + 1 + ns.length = j + (ns.length + 1) by omega]
theorem GP_get : ∀ {vs gs : List Value} {ns : List Nat} {j i : Nat} (h1 : vs.length = ns.length) (h2 : gs.length = ns.length) (hi : i < ns.length), ∃ R, GP j vs gs ns = R * Gr (vs[i]'(by omega)) ns[i] (bys (mks (j + i) ns[i])) (gs[i]'(by omega)) (ns[i] + 70) (bys (mks (j + i) (ns[i] + 70)))
  | _, _, [], _, _, _, _, h => by simp at h
  | [], _, _ :: _, _, _, h, _, _ => by simp at h
  | _ :: _, [], _ :: _, _, _, _, h, _ => by simp at h
  | v :: vs, g :: gs, n :: ns, j, 0, _, _, _ => ⟨GP (j + 1) vs gs ns, rfl⟩
  | v :: vs, g :: gs, n :: ns, j, i + 1, h1, h2, hi => by
    obtain ⟨R, e⟩ := GP_get (vs := vs) (gs := gs) (ns := ns) (j := j + 1) (i := i) (by simpa using h1) (by simpa using h2) (by simpa using hi)
    refine ⟨R * Gr v n (bys (mks j n)) g (n + 70) (bys (mks j (n + 70))), ?_⟩
    show GP (j + 1) vs gs ns * _ = _
    rw [e, star_swap, show j + 1 + i = j + (i + 1) by omega]; rfl
theorem PM_at {vs : List Value} {ns : List Nat} {i : Nat} (h1 : vs.length = ns.length) (hi : i < ns.length) : PM i (vs.drop i) (ns.drop i) = PM (i + 1) (vs.drop (i + 1)) (ns.drop (i + 1)) * Sl 1 (vs[i]'(by omega)) ns[i] (bys (mks i ns[i])) := by
  rw [List.drop_eq_getElem_cons hi, List.drop_eq_getElem_cons (show i < vs.length by omega)]; rfl
theorem GP_read {X : SP} {vs gs : List Value} {ns : List Nat} {i : Nat} (h1 : vs.length = ns.length) (h2 : gs.length = ns.length) (hi : i < ns.length) {g : Gh} {w : World} (hs : sat g w (X * GP 0 vs gs ns)) :
    ∃ ai ci ag cg, vs[i]? = some (.slice ai ns[i] ci) ∧ gs[i]? = some (.slice ag (ns[i] + 70) cg) ∧ Rs (X * GP 0 vs gs ns) ai (bys (mks i ns[i])) ∧ Rs (X * GP 0 vs gs ns) ag (bys (mks i (ns[i] + 70))) := by
  obtain ⟨R, e⟩ := GP_get (j := 0) h1 h2 hi
  rw [e, ← star_assoc, Nat.zero_add] at hs ⊢
  obtain ⟨ai, ci, ag, cg, e1, e2, _, _, _, _, h3, h4⟩ := gr_have hs
  exact ⟨ai, ci, ag, cg, by rw [List.getElem?_eq_getElem (by omega), e1], by rw [List.getElem?_eq_getElem (by omega), e2], rs_rd h3, rs_rd h4⟩
theorem PM_len : ∀ {vs : List Value} {ns : List Nat} {j : Nat} {R : SP} {g : Gh} {w : World}, sat g w (R * PM j vs ns) → vs.length = ns.length
  | [], [], _, _, _, _, _ => rfl
  | v :: vs, n :: ns, j, R, g, w, h => by
    have : sat g w (R * Sl 1 v n (bys (mks j n)) * PM (j + 1) vs ns) := h.perm (by show _ * (_ * _) = _; ac_rfl)
    have := PM_len this
    simp [this]
  | [], _ :: _, _, _, _, _, h => by obtain ⟨_, ⟨_, _, _, _, _, ⟨hf, _⟩⟩, _⟩ := h.hp; exact hf.elim
  | _ :: _, [], _, _, _, _, h => by obtain ⟨_, ⟨_, _, _, _, _, ⟨hf, _⟩⟩, _⟩ := h.hp; exact hf.elim
theorem pm_mkL {ls : List (List Nat)} : pm mkL ls.length ls = ls.mapIdx fun i l => mks (0 + i) l.length := by
  rw [pm_all]
  apply List.ext_getElem?
  intro i
  simp only [List.getElem?_mapIdx, Nat.zero_add]; rfl
theorem parts_row {vs : List Value} {ls : List (List Nat)} {i : Nat} (h : vs.length = ls.length) (hi : i < ls.length) : ∃ R, (∀ A, A * Parts vs ls = A * R * Sl 1 (vs[i]'(by omega)) ls[i].length (bys ls[i])) ∧ ∀ A l, A * R * Sl 1 (vs[i]'(by omega)) l.length (bys l) = A * Parts vs (ls.set i l) := by
  obtain ⟨R, e1, e2⟩ := parts_get (vs := vs) (ls := ls) h hi
  refine ⟨R, fun A => by rw [e1, star_assoc], fun A l => ?_⟩
  have := e2 (vs[i]'(by omega)) l
  rw [set_getElem (by omega)] at this
  rw [this, star_assoc]
theorem gr_same' {v : Value} {n : Nat} {xs : List Value} {R : SP} : ∀ g w, sat g w (R * Sl 1 v n xs) → sat g w (R * Gr v n xs v n xs) := fun g w h => gr_same h

attribute [local irreducible] Sl SlR pt ro Parts Gr

theorem mark_c {A : SP} {i k : Nat} (h : i ≤ 1099511627776 ∧ k ≤ 1099511627776 := by omega) :
    Fn Try.prog 86 #[.int .i64 (i : Nat), .int .i64 (k : Nat)] (A) (fun r B => r = .int .u8 ((mk i k : Nat) : Int) ∧ A = B) := by
  refine fn_enterW (args := [.int .i64 (i : Nat), .int .i64 (k : Nat)]) Try.func86 rfl Try.ntmps86 (by simp) ?_
  refine tc_seq ?_
  refine tc_reg ?_
  refine tl_v rfl (o_assign (by conv => lhs; whnf)) ?_
  refine tl_nil ?_
  refine q_then_n ?_
  refine tc_seq ?_
  refine tc_reg ?_
  refine tl_v rfl (o_move (by conv => lhs; whnf)) ?_
  refine tl_v rfl (by first | exact o_mulI rfl rfl (by omega) | exact o_mul rfl rfl) ?_
  refine tl_v rfl (o_move (by conv => lhs; whnf)) ?_
  refine tl_v rfl (by first | exact o_mulI rfl rfl (by omega) | exact o_mul rfl rfl) ?_
  refine tl_v rfl (by first | exact o_addI rfl rfl (by omega) | exact o_add rfl rfl) ?_
  refine tl_v rfl (by first | exact o_addI rfl rfl (by omega) | exact o_add rfl rfl) ?_
  refine tl_env (d := 10) (v := .int .i64 ((i * 31 + k * 7 + 1 : Nat) : Int)) (rfl) ?_
  refine tl_v rfl (by first | exact o_conv8 Try.underlying3 Try.underlying5 rfl | exact o_conv Try.underlying3 Try.underlying5 rfl) ?_
  refine tl_v rfl (o_assign (by conv => lhs; whnf)) ?_
  refine tl_nil ?_
  refine q_then_n ?_
  refine tc_ret ?_
  exact ⟨.int .u8 (((i * 31 + k * 7 + 1) % 256 : Nat) : Int), A, res1 rfl rfl, fun _ _ h => h, rfl, rfl⟩

set_option maxRecDepth 20000 in
set_option maxHeartbeats 1000000 in
theorem Apart_c {F : SP} {a : Option Addr} {m c : Nat} {vs : List Value} (ls : List (List Nat)) (hm : ls.length = m) (hl : m ≤ 1048576) (hls : ∀ l ∈ ls, l.length ≤ 137438953472) :
    Fn Try.prog 23 #[.slice a m c] (F * Parts vs ls * Sl 1 (.slice a m c) m vs) (fun r B => r = .bool true ∧ B = F) := by
  have hE := @fn_enterW Try.prog 23 Try.f23 _ [.slice a m c] (F * Parts vs ls * Sl 1 (.slice a m c) m vs) (fun r B => r = .bool true ∧ B = F) _ Try.func23 rfl Try.ntmps23 (by simp)
  refine hE ?_
  clear hE
  refine tc_have (fun _ _ h => parts_len h.left) fun hvl => ?_
  rw [star_swap]
  refine tc_seq ?_
  refine tc_reg ?_
  refine tl_v rfl (o_assign (by conv => lhs; whnf)) ?_
  refine tl_nil ?_
  refine q_then_n ?_
  refine tc_seq ?_
  refine tc_seq ?_
  refine tc_reg ?_
  refine tl_v rfl (o_assign (by conv => lhs; whnf)) ?_
  refine tl_nil ?_
  refine q_then_n ?_
  refine tc_block ?_
  refine tc_loop (fun kk ρ BB => ∃ (i : Nat), (i ≤ m) ∧ kk = m - i ∧ ρ 3 = .int .i64 (i : Nat) ∧ ρ 0 = .slice a m c ∧ BB = F * Sl 1 (.slice a m c) m vs * Parts vs (pm mkL i ls)) (m := m - (0)) ?_ ?_
  · exact ⟨0, by omega, rfl, rfl, rfl, by rw [pm_zero]⟩
  · intro k ρ B hI
    obtain ⟨i, hp0, hkk1, hE3, hE0, rfl⟩ := hI
    refine tc_env (d := 3) hE3 ?_
    refine tc_env (d := 0) hE0 ?_
    clear hE3 hE0
    refine tc_seq ?_
    refine tc_seq ?_
    refine tc_reg ?_
    refine tl_v rfl (o_move (by conv => lhs; whnf)) ?_
    refine tl_v rfl (o_move (by conv => lhs; whnf)) ?_
    refine tl_v rfl (o_len Try.underlying33 rfl) ?_
    refine tl_v rfl (o_lss rfl rfl) ?_
    refine tl_nil ?_
    refine q_then_n ?_
    refine tc_cond rfl (fun h => ?_) (fun h => ?_)
    · have hi : i < ls.length := by simp at h; omega
      have hip : i < (pm mkL i ls).length := by rw [pm_length]; exact hi
      obtain ⟨R, hR1, hR2⟩ := parts_row (vs := vs) (ls := pm mkL i ls) (i := i) (by rw [pm_length]; exact hvl) hip
      rw [pm_at mkL hi] at hR1
      have hlsi := hls _ (List.getElem_mem hi)
      refine tc_eq (hR1 _) ?_
      refine tc_have (fun _ _ h => sl_have h) fun ⟨ai, ci, hvi, hci, _, _⟩ => ?_
      rw [hvi]
      have hvi2 : vs[i]? = some (.slice ai ls[i].length ci) := by rw [List.getElem?_eq_getElem (by omega), hvi]
      refine tc_skip ?_
      refine q_then_n ?_
      refine tc_seq ?_
      refine tc_block ?_
      refine tc_seq ?_
      refine tc_reg ?_
      refine tl_v rfl (o_assign (by conv => lhs; whnf)) ?_
      refine tl_nil ?_
      refine q_then_n ?_
      refine tc_block ?_
      refine tc_loop (fun kk ρ BB => ∃ (k : Nat), (k ≤ ls[i].length) ∧ kk = ls[i].length - k ∧ ρ 4 = .int .i64 (k : Nat) ∧ ρ 0 = .slice a m c ∧ ρ 3 = .int .i64 (i : Nat) ∧ BB = F * Sl 1 (.slice a m c) m vs * R * Sl 1 (.slice ai ls[i].length ci) ls[i].length (bys (pm (fun k _ => mk i k) k ls[i]))) (m := ls[i].length - (0)) ?_ ?_
      · exact ⟨0, by omega, rfl, rfl, rfl, rfl, by rw [pm_zero]⟩
      · intro k ρ B hI
        obtain ⟨k, hp0, hkk2, hE4, hE0, hE3, rfl⟩ := hI
        refine tc_env (d := 4) hE4 ?_
        refine tc_env (d := 0) hE0 ?_
        refine tc_env (d := 3) hE3 ?_
        clear hE4 hE0 hE3
        refine tc_seq ?_
        refine tc_seq ?_
        refine tc_reg ?_
        refine tl_v rfl (o_move (by conv => lhs; whnf)) ?_
        refine tl_v rfl (o_move (by conv => lhs; whnf)) ?_
        refine tl_v rfl (o_move (by conv => lhs; whnf)) ?_
        refine tl_v rfl (o_ixP1 Try.underlying33 sz28 rfl rfl (by first | omega | (simp only [bys_length, ints_length, wds_length, bos_length, List.length_append, List.length_take, List.length_drop, List.length_singleton]; omega)) (by repeat (first | exact nn_some | with_reducible exact nn_sl (by decide) | exact nn_rs (by assumption) (fun _ => by first | omega | (simp only [bys_length, ints_length, wds_length, bos_length, List.length_append, List.length_take, List.length_drop, List.length_singleton]; omega)) | apply Nn.left))) ?_
        refine tl_v rfl (o_ldP p28 rfl (by repeat (first | assumption | with_reducible exact rs_sl | with_reducible exact rs_pt0 | exact rs_none | apply Rs.left)) (by first | assumption | exact bys_at (by omega) | exact ints_at (by omega) | exact wds_at (by omega) | exact bos_at (by omega) | rfl)) ?_
        refine tl_v rfl (o_len Try.underlying28 rfl) ?_
        refine tl_v rfl (o_lss rfl rfl) ?_
        refine tl_nil ?_
        refine q_then_n ?_
        refine tc_cond rfl (fun h => ?_) (fun h => ?_)
        · have hk : k < ls[i].length := by simp at h; omega
          refine tc_have (fun g w h => nn_sl (by decide) g w h (show 0 < ls[i].length by omega)) fun ⟨bi, oi, ei⟩ => ?_
          subst ei
          refine tc_skip ?_
          refine q_then_n ?_
          refine tc_seq ?_
          refine tc_block ?_
          refine tc_regh (S := F * Sl 1 (.slice a m c) m vs * R) mo (by repeat (first | with_reducible exact dr_refl | apply dr_keep | apply dr_drop)) ?_
          show TH _ _ _ _ _ 10 #[false, false, false, false, false, false, false, false, false, false] _ _
          refine th_take (i := 0) (listed' := #[true, false, false, false, false, false, false, false, false, false]) rfl (by kernel_rfl) (by kernel_rfl) (by kernel_rfl) rfl rfl (o_move (by conv => lhs; whnf)) ?_
          refine th_take (i := 1) (listed' := #[true, true, false, false, false, false, false, false, false, false]) rfl (by kernel_rfl) (by kernel_rfl) (by kernel_rfl) rfl rfl (o_move (by conv => lhs; whnf)) ?_
          refine th_take (i := 2) (listed' := #[true, true, true, false, false, false, false, false, false, false]) rfl (by kernel_rfl) (by kernel_rfl) (by kernel_rfl) rfl rfl (o_ixP1 Try.underlying33 sz28 rfl rfl (by first | omega | (simp only [bys_length, ints_length, wds_length, bos_length, List.length_append, List.length_take, List.length_drop, List.length_singleton]; omega)) (by repeat (first | exact nn_some | with_reducible exact nn_sl (by decide) | exact nn_rs (by assumption) (fun _ => by first | omega | (simp only [bys_length, ints_length, wds_length, bos_length, List.length_append, List.length_take, List.length_drop, List.length_singleton]; omega)) | apply Nn.left))) ?_
          refine th_take (i := 3) (listed' := #[true, true, true, true, false, false, false, false, false, false]) rfl (by kernel_rfl) (by kernel_rfl) (by kernel_rfl) rfl rfl (o_ldP p28 rfl (by repeat (first | assumption | with_reducible exact rs_sl | with_reducible exact rs_pt0 | exact rs_none | apply Rs.left)) (by first | assumption | exact bys_at (by omega) | exact ints_at (by omega) | exact wds_at (by omega) | exact bos_at (by omega) | rfl)) ?_
          refine th_take (i := 4) (listed' := #[true, true, true, true, true, false, false, false, false, false]) rfl (by kernel_rfl) (by kernel_rfl) (by kernel_rfl) rfl rfl (o_move (by conv => lhs; whnf)) ?_
          refine th_take (i := 5) (listed' := #[true, true, true, true, true, true, false, false, false, false]) rfl (by kernel_rfl) (by kernel_rfl) (by kernel_rfl) rfl rfl (o_move (by conv => lhs; whnf)) ?_
          refine th_take (i := 6) (listed' := #[true, true, true, true, true, true, true, false, false, false]) rfl (by kernel_rfl) (by kernel_rfl) (by kernel_rfl) rfl rfl (o_move (by conv => lhs; whnf)) ?_
          refine th_one (i := 7) (by kernel_rfl) ?_
          refine oh_c (i := 7) (listed' := #[true, true, true, true, true, true, true, true, false, false]) rfl rfl rfl (o_call bd86 rfl (mark_c)) ?_
          rintro _ _ ⟨rfl, rfl⟩
          refine ⟨by repeat (first | with_reducible exact dr_refl | apply dr_keep | apply dr_drop), ?_⟩
          refine th_take (i := 8) (listed' := #[true, true, true, true, true, true, true, true, true, false]) rfl (by kernel_rfl) (by kernel_rfl) (by kernel_rfl) rfl rfl (o_ixP1 Try.underlying28 sz5 rfl rfl (by first | omega | (simp only [bys_length, ints_length, wds_length, bos_length, List.length_append, List.length_take, List.length_drop, List.length_singleton]; omega)) (by repeat (first | exact nn_some | with_reducible exact nn_sl (by decide) | exact nn_rs (by assumption) (fun _ => by first | omega | (simp only [bys_length, ints_length, wds_length, bos_length, List.length_append, List.length_take, List.length_drop, List.length_singleton]; omega)) | apply Nn.left))) ?_
          refine th_one (i := 9) (by kernel_rfl) ?_
          refine oh_u (i := 9) (listed' := #[true, true, true, true, true, true, true, true, true, true]) rfl rfl rfl (o_stP sz5 rfl rfl rfl (by repeat (first | with_reducible exact ct_here | apply ct_left)) (by omega) (by first | exact bys_set _ _ _ | exact ints_set _ _ _ | exact wds_set' _ _ _ | exact bos_set _ _ _ | rfl)) (by repeat (first | with_reducible exact dr_refl | apply dr_keep | apply dr_drop)) ?_
          refine th_done (by kernel_rfl) ?_
          refine q_block_n (q_then_n ?_)
          refine tc_reg ?_
          refine tl_v rfl (o_move (by conv => lhs; whnf)) ?_
          refine tl_v rfl (by first | exact o_addI rfl rfl (by omega) | exact o_add rfl rfl) ?_
          refine tl_v rfl (o_assign (by conv => lhs; whnf)) ?_
          refine tl_nil ?_
          refine q_then_n ?_
          exact ⟨_, by omega, k + 1, by omega, rfl, rfl, rfl, rfl, by rw [← pm_set (fun k _ => mk i k) hk]⟩
        · try simp only [decide_eq_true_eq, decide_eq_false_iff_not, Bool.not_eq_true', Bool.not_eq_false', Option.isNone_some, Option.isNone_none, Bool.not_true, Bool.not_false] at h
          refine tc_exit ?_
          refine q_then_e (q_then_e (q_block_x (q_block_n (q_then_n ?_))))
          obtain rfl : k = ls[i].length := by omega
          refine tc_eq (show _ = F * Sl 1 (.slice a m c) m vs * Parts vs (pm mkL (i + 1) ls) by rw [← pm_set mkL hi, mks_pm]; have := hR2 (F * Sl 1 (.slice a m c) m vs) (mks i ls[i].length); rw [hvi, mks_length] at this; exact this) ?_
          refine tc_reg ?_
          refine tl_v rfl (o_move (by conv => lhs; whnf)) ?_
          refine tl_v rfl (by first | exact o_addI rfl rfl (by omega) | exact o_add rfl rfl) ?_
          refine tl_v rfl (o_assign (by conv => lhs; whnf)) ?_
          refine tl_nil ?_
          refine q_then_n ?_
          exact ⟨_, by omega, i + 1, by omega, rfl, rfl, rfl, rfl⟩
    · try simp only [decide_eq_true_eq, decide_eq_false_iff_not, Bool.not_eq_true', Bool.not_eq_false', Option.isNone_some, Option.isNone_none, Bool.not_true, Bool.not_false] at h
      refine tc_exit ?_
      refine q_then_e (q_then_e (q_block_x (q_then_n ?_)))
      refine tc_seq ?_
      obtain rfl : i = ls.length := by omega
      rw [pm_mkL, parts_PM hvl]
      refine tc_reg ?_
      refine tl_v rfl (o_assign (by conv => lhs; whnf)) ?_
      refine tl_nil ?_
      refine q_then_n ?_
      refine tc_seq ?_
      refine tc_seq ?_
      refine tc_reg ?_
      refine tl_v rfl (o_assign (by conv => lhs; whnf)) ?_
      refine tl_nil ?_
      refine q_then_n ?_
      refine tc_block ?_
      refine tc_pre (fun _ _ h => sl_nil (k := 1) h) ?_
      refine tc_eq (show _ = F * Sl 1 (.slice a m c) m vs * GP 0 [] [] [] * PM 0 vs (ls.map List.length) * Sl 1 (.slice none 0 0) 0 [] by rw [show GP 0 [] [] [] = emp from rfl, star_emp]) ?_
      refine tc_loop (fun kk ρ BB => ∃ (i : Nat) (a5 : Option Addr) (c5 : Nat) (gs : List Value), (i ≤ m) ∧ (gs.length = i) ∧ kk = m - i ∧ ρ 5 = .slice a5 i c5 ∧ ρ 6 = .int .i64 (i : Nat) ∧ ρ 0 = .slice a m c ∧ BB = F * Sl 1 (.slice a m c) m vs * GP 0 (vs.take i) gs ((ls.map List.length).take i) * PM i (vs.drop i) ((ls.map List.length).drop i) * Sl 1 (.slice a5 i c5) i gs) (m := m - (0)) ?_ ?_
      · exact ⟨0, none, 0, [], by omega, rfl, rfl, rfl, rfl, rfl, rfl⟩
      · intro k ρ B hI
        obtain ⟨i, a5, c5, gs, hp0, hp1, hkk3, hE5, hE6, hE0, rfl⟩ := hI
        refine tc_env (d := 5) hE5 ?_
        refine tc_env (d := 6) hE6 ?_
        refine tc_env (d := 0) hE0 ?_
        clear hE5 hE6 hE0
        refine tc_seq ?_
        refine tc_seq ?_
        refine tc_reg ?_
        refine tl_v rfl (o_move (by conv => lhs; whnf)) ?_
        refine tl_v rfl (o_move (by conv => lhs; whnf)) ?_
        refine tl_v rfl (o_len Try.underlying33 rfl) ?_
        refine tl_v rfl (o_lss rfl rfl) ?_
        refine tl_nil ?_
        refine q_then_n ?_
        refine tc_cond rfl (fun h => ?_) (fun h => ?_)
        · have hi : i < ls.length := by simp at h; omega
          have hin : i < (ls.map List.length).length := by simpa using hi
          have hpm := PM_at (vs := vs) (ns := ls.map List.length) (by simpa using hvl) hin
          simp only [List.getElem_map] at hpm
          have hlsi := hls _ (List.getElem_mem hi)
          refine tc_eq (show _ = F * Sl 1 (.slice a m c) m vs * GP 0 (vs.take i) gs ((ls.map List.length).take i) * PM (i + 1) (vs.drop (i + 1)) ((ls.map List.length).drop (i + 1)) * Sl 1 (.slice a5 i c5) i gs * Sl 1 vs[i] ls[i].length (bys (mks i ls[i].length)) by rw [hpm]; ac_rfl) ?_
          refine tc_have (fun _ _ h => sl_have h) fun ⟨ai, ci, hvi, hci, _, _⟩ => ?_
          rw [hvi]
          have hvi2 : vs[i]? = some (.slice ai ls[i].length ci) := by rw [List.getElem?_eq_getElem (by omega), hvi]
          refine tc_pre gr_same' ?_
          refine tc_skip ?_
          refine q_then_n ?_
          refine tc_seq ?_
          refine tc_block ?_
          refine tc_seq ?_
          refine tc_reg ?_
          refine tl_v rfl (o_move (by conv => lhs; whnf)) ?_
          refine tl_v rfl (o_move (by conv => lhs; whnf)) ?_
          refine tl_v rfl (o_ixP1 Try.underlying33 sz28 rfl rfl (by first | omega | (simp only [bys_length, ints_length, wds_length, bos_length, List.length_append, List.length_take, List.length_drop, List.length_singleton]; omega)) (by repeat (first | exact nn_some | with_reducible exact nn_sl (by decide) | exact nn_rs (by assumption) (fun _ => by first | omega | (simp only [bys_length, ints_length, wds_length, bos_length, List.length_append, List.length_take, List.length_drop, List.length_singleton]; omega)) | apply Nn.left))) ?_
          refine tl_v rfl (o_ldP p28 rfl (by repeat (first | assumption | with_reducible exact rs_sl | with_reducible exact rs_pt0 | exact rs_none | apply Rs.left)) (by first | assumption | exact bys_at (by omega) | exact ints_at (by omega) | exact wds_at (by omega) | exact bos_at (by omega) | rfl)) ?_
          refine tl_v rfl (o_assign (by conv => lhs; whnf)) ?_
          refine tl_nil ?_
          refine q_then_n ?_
          refine tc_seq ?_
          refine tc_seq ?_
          refine tc_reg ?_
          refine tl_v rfl (o_assign (by conv => lhs; whnf)) ?_
          refine tl_nil ?_
          refine q_then_n ?_
          refine tc_block ?_
          refine tc_loop (fun kk ρ BB => ∃ (k : Nat) (a7 : Option Addr) (c7 : Nat), (k ≤ 70) ∧ kk = 70 - k ∧ ρ 7 = .slice a7 (ls[i].length + k) c7 ∧ ρ 8 = .int .i64 (k : Nat) ∧ ρ 0 = .slice a m c ∧ ρ 5 = .slice a5 i c5 ∧ ρ 6 = .int .i64 (i : Nat) ∧ BB = F * Sl 1 (.slice a m c) m vs * GP 0 (vs.take i) gs ((ls.map List.length).take i) * PM (i + 1) (vs.drop (i + 1)) ((ls.map List.length).drop (i + 1)) * Sl 1 (.slice a5 i c5) i gs * Gr (.slice ai ls[i].length ci) ls[i].length (bys (mks i ls[i].length)) (.slice a7 (ls[i].length + k) c7) (ls[i].length + k) (bys (mks i (ls[i].length + k)))) (m := 70 - (0)) ?_ ?_
          · exact ⟨0, ai, ci, by omega, rfl, rfl, rfl, rfl, rfl, rfl, rfl⟩
          · intro k ρ B hI
            obtain ⟨k, a7, c7, hp0, hkk4, hE7, hE8, hE0, hE5, hE6, rfl⟩ := hI
            refine tc_env (d := 7) hE7 ?_
            refine tc_env (d := 8) hE8 ?_
            refine tc_env (d := 0) hE0 ?_
            refine tc_env (d := 5) hE5 ?_
            refine tc_env (d := 6) hE6 ?_
            clear hE7 hE8 hE0 hE5 hE6
            refine tc_seq ?_
            refine tc_seq ?_
            refine tc_reg ?_
            refine tl_v rfl (o_move (by conv => lhs; whnf)) ?_
            refine tl_v rfl (o_lss rfl rfl) ?_
            refine tl_nil ?_
            refine q_then_n ?_
            refine tc_cond rfl (fun h => ?_) (fun h => ?_)
            · try simp only [decide_eq_true_eq, decide_eq_false_iff_not, Bool.not_eq_true', Bool.not_eq_false', Option.isNone_some, Option.isNone_none, Bool.not_true, Bool.not_false] at h
              refine tc_skip ?_
              refine q_then_n ?_
              refine tc_seq ?_
              refine tc_block ?_
              refine tc_reg ?_
              refine tl_v rfl (o_move (by conv => lhs; whnf)) ?_
              refine tl_v rfl (o_move (by conv => lhs; whnf)) ?_
              refine tl_v rfl (o_move (by conv => lhs; whnf)) ?_
              refine tl_v rfl (o_move (by conv => lhs; whnf)) ?_
              refine tl_v rfl (o_ixP1 Try.underlying33 sz28 rfl rfl (by first | omega | (simp only [bys_length, ints_length, wds_length, bos_length, List.length_append, List.length_take, List.length_drop, List.length_singleton]; omega)) (by repeat (first | exact nn_some | with_reducible exact nn_sl (by decide) | exact nn_rs (by assumption) (fun _ => by first | omega | (simp only [bys_length, ints_length, wds_length, bos_length, List.length_append, List.length_take, List.length_drop, List.length_singleton]; omega)) | apply Nn.left))) ?_
              refine tl_v rfl (o_ldP p28 rfl (by repeat (first | assumption | with_reducible exact rs_sl | with_reducible exact rs_pt0 | exact rs_none | apply Rs.left)) (by first | assumption | exact bys_at (by omega) | exact ints_at (by omega) | exact wds_at (by omega) | exact bos_at (by omega) | rfl)) ?_
              refine tl_v rfl (o_len Try.underlying28 rfl) ?_
              refine tl_v rfl (o_move (by conv => lhs; whnf)) ?_
              refine tl_v rfl (by first | exact o_addI rfl rfl (by omega) | exact o_add rfl rfl) ?_
              refine tl_env (d := 57) (v := .int .i64 ((ls[i].length + k : Nat) : Int)) (rfl) ?_
              refine tl_c rfl (o_call bd86 rfl (mark_c)) ?_
              rintro _ _ ⟨rfl, rfl⟩
              refine tl_x rfl (o_buildSlice1 Try.underlying28 sz5 z5 (by conv => lhs; whnf) rfl) ?_
              rintro _ _ ⟨b59, rfl, rfl⟩
              refine tl_x rfl (o_apGr Try.underlying28 Try.underlying28 sz5 by5 z5 rfl (by decide) rfl rfl rfl (by repeat (first | with_reducible exact ct_here | apply ct_left)) rfl rfl (by omega) (by rw [bys_sn, ← mks_succ])) ?_
              rintro _ _ ⟨a60, c60, rfl, hc60, rfl⟩
              refine tl_v rfl (o_assign (by conv => lhs; whnf)) ?_
              refine tl_nil ?_
              refine q_block_n (q_then_n ?_)
              refine tc_reg ?_
              refine tl_v rfl (o_move (by conv => lhs; whnf)) ?_
              refine tl_v rfl (by first | exact o_addI rfl rfl (by omega) | exact o_add rfl rfl) ?_
              refine tl_v rfl (o_assign (by conv => lhs; whnf)) ?_
              refine tl_nil ?_
              refine q_then_n ?_
              exact ⟨_, by omega, k + 1, _, _, by omega, rfl, rfl, rfl, rfl, rfl, rfl, rfl⟩
            · try simp only [decide_eq_true_eq, decide_eq_false_iff_not, Bool.not_eq_true', Bool.not_eq_false', Option.isNone_some, Option.isNone_none, Bool.not_true, Bool.not_false] at h
              refine tc_exit ?_
              refine q_then_e (q_then_e (q_block_x (q_then_n ?_)))
              obtain rfl : k = 70 := by omega
              refine tc_reg ?_
              refine tl_v rfl (o_move (by conv => lhs; whnf)) ?_
              refine tl_v rfl (o_move (by conv => lhs; whnf)) ?_
              refine tl_x rfl (o_buildSlice1 Try.underlying33 sz28 z28 (by conv => lhs; whnf) rfl) ?_
              rintro _ _ ⟨b63, rfl, rfl⟩
              refine tl_x rfl (o_apB Try.underlying33 Try.underlying33 sz28 by28 z28 rfl (by decide) (by decide) rfl rfl rfl (by repeat (first | with_reducible exact ct_here | apply ct_left)) rfl rfl (by omega) rfl) ?_
              rintro _ _ ⟨a64, c64, rfl, hc64, rfl⟩
              refine tl_v rfl (o_assign (by conv => lhs; whnf)) ?_
              refine tl_nil ?_
              refine q_block_n (q_then_n ?_)
              refine tc_eq (show _ = F * Sl 1 (.slice a m c) m vs * GP 0 (vs.take (i + 1)) (gs ++ [.slice a7 (ls[i].length + 70) c7]) ((ls.map List.length).take (i + 1)) * PM (i + 1) (vs.drop (i + 1)) ((ls.map List.length).drop (i + 1)) * Sl 1 (.slice a64 (i + 1) c64) (i + 1) (gs ++ [.slice a7 (ls[i].length + 70) c7]) by rw [List.take_succ_eq_append_getElem (show i < vs.length by omega), List.take_succ_eq_append_getElem hin, GP_snoc (by simp; omega) (by simp; omega)]; simp only [List.length_take, List.length_map, Nat.min_eq_left (Nat.le_of_lt hi), Nat.zero_add, List.getElem_map, hvi]; ac_rfl) ?_
              refine tc_reg ?_
              refine tl_v rfl (o_move (by conv => lhs; whnf)) ?_
              refine tl_v rfl (by first | exact o_addI rfl rfl (by omega) | exact o_add rfl rfl) ?_
              refine tl_v rfl (o_assign (by conv => lhs; whnf)) ?_
              refine tl_nil ?_
              refine q_then_n ?_
              exact ⟨_, by omega, i + 1, _, _, _, by omega, by simp [hp1], rfl, rfl, rfl, rfl, rfl⟩
        · try simp only [decide_eq_true_eq, decide_eq_false_iff_not, Bool.not_eq_true', Bool.not_eq_false', Option.isNone_some, Option.isNone_none, Bool.not_true, Bool.not_false] at h
          refine tc_exit ?_
          refine q_then_e (q_then_e (q_block_x (q_then_n ?_)))
          refine tc_seq ?_
          refine tc_seq ?_
          obtain rfl : i = ls.length := by omega
          refine tc_eq (show _ = F * Sl 1 (.slice a m c) m vs * GP 0 vs gs (ls.map List.length) * Sl 1 (.slice a5 ls.length c5) ls.length gs by rw [List.take_of_length_le (by omega), List.take_of_length_le (by simp), List.drop_of_length_le (by omega), List.drop_of_length_le (by simp)]; show _ * emp * _ = _; rw [star_emp]) ?_
          refine tc_reg ?_
          refine tl_v rfl (o_assign (by conv => lhs; whnf)) ?_
          refine tl_nil ?_
          refine q_then_n ?_
          refine tc_block ?_
          refine tc_loop (fun kk ρ BB => ∃ (i : Nat), (i ≤ ls.length) ∧ kk = ls.length - i ∧ ρ 9 = .int .i64 (i : Nat) ∧ ρ 0 = .slice a m c ∧ ρ 5 = .slice a5 ls.length c5 ∧ BB = F * Sl 1 (.slice a m c) m vs * GP 0 vs gs (ls.map List.length) * Sl 1 (.slice a5 ls.length c5) ls.length gs) (m := ls.length - (0)) ?_ ?_
          · exact ⟨0, by omega, rfl, rfl, rfl, rfl, rfl⟩
          · intro k ρ B hI
            obtain ⟨i, hp0, hkk5, hE9, hE0, hE5, rfl⟩ := hI
            refine tc_env (d := 9) hE9 ?_
            refine tc_env (d := 0) hE0 ?_
            refine tc_env (d := 5) hE5 ?_
            clear hE9 hE0 hE5
            refine tc_seq ?_
            refine tc_seq ?_
            refine tc_reg ?_
            refine tl_v rfl (o_move (by conv => lhs; whnf)) ?_
            refine tl_v rfl (o_move (by conv => lhs; whnf)) ?_
            refine tl_v rfl (o_len Try.underlying33 rfl) ?_
            refine tl_v rfl (o_lss rfl rfl) ?_
            refine tl_nil ?_
            refine q_then_n ?_
            refine tc_cond rfl (fun h => ?_) (fun h => ?_)
            · have hi : i < ls.length := by simp at h; omega
              have hin : i < (ls.map List.length).length := by simpa using hi
              have hv1 : vs.length = (ls.map List.length).length := by simpa using hvl
              have hg1 : gs.length = (ls.map List.length).length := by simp; omega
              refine tc_have (fun _ _ h => GP_read (X := F * Sl 1 (.slice a m c) m vs) hv1 hg1 hin h.left) fun ⟨ai, ci, ag, cg, hvi, hgi, hr1, hr2⟩ => ?_
              simp only [List.getElem_map] at hvi hgi hr1 hr2
              have hlsi := hls _ (List.getElem_mem hi)
              have hbl1 : (bys (mks i ls[i].length)).length = ls[i].length := by rw [bys_length, mks_length]
              have hbl2 : (bys (mks i (ls[i].length + 70))).length = ls[i].length + 70 := by rw [bys_length, mks_length]
              refine tc_skip ?_
              refine q_then_n ?_
              refine tc_seq ?_
              refine tc_block ?_
              refine tc_seq ?_
              refine tc_reg ?_
              refine tl_v rfl (o_assign (by conv => lhs; whnf)) ?_
              refine tl_nil ?_
              refine q_then_n ?_
              refine tc_block ?_
              refine tc_loop (fun kk ρ BB => ∃ (k : Nat), (k ≤ ls[i].length + 70) ∧ kk = ls[i].length + 70 - k ∧ ρ 10 = .int .i64 (k : Nat) ∧ ρ 0 = .slice a m c ∧ ρ 5 = .slice a5 ls.length c5 ∧ ρ 9 = .int .i64 (i : Nat) ∧ BB = F * Sl 1 (.slice a m c) m vs * GP 0 vs gs (ls.map List.length) * Sl 1 (.slice a5 ls.length c5) ls.length gs) (m := ls[i].length + 70 - (0)) ?_ ?_
              · exact ⟨0, by omega, rfl, rfl, rfl, rfl, rfl, rfl⟩
              · intro k ρ B hI
                obtain ⟨k, hp0, hkk6, hE10, hE0, hE5, hE9, rfl⟩ := hI
                refine tc_env (d := 10) hE10 ?_
                refine tc_env (d := 0) hE0 ?_
                refine tc_env (d := 5) hE5 ?_
                refine tc_env (d := 9) hE9 ?_
                clear hE10 hE0 hE5 hE9
                refine tc_seq ?_
                refine tc_seq ?_
                refine tc_reg ?_
                refine tl_v rfl (o_move (by conv => lhs; whnf)) ?_
                refine tl_v rfl (o_move (by conv => lhs; whnf)) ?_
                refine tl_v rfl (o_move (by conv => lhs; whnf)) ?_
                refine tl_v rfl (o_ixP1 Try.underlying33 sz28 rfl rfl (by first | omega | (simp only [bys_length, ints_length, wds_length, bos_length, List.length_append, List.length_take, List.length_drop, List.length_singleton]; omega)) (by repeat (first | exact nn_some | with_reducible exact nn_sl (by decide) | exact nn_rs (by assumption) (fun _ => by first | omega | (simp only [bys_length, ints_length, wds_length, bos_length, List.length_append, List.length_take, List.length_drop, List.length_singleton]; omega)) | apply Nn.left))) ?_
                refine tl_v rfl (o_ldP p28 rfl (by repeat (first | assumption | with_reducible exact rs_sl | with_reducible exact rs_pt0 | exact rs_none | apply Rs.left)) (by first | assumption | exact bys_at (by omega) | exact ints_at (by omega) | exact wds_at (by omega) | exact bos_at (by omega) | rfl)) ?_
                refine tl_v rfl (o_len Try.underlying28 rfl) ?_
                refine tl_v rfl (o_lss rfl rfl) ?_
                refine tl_nil ?_
                refine q_then_n ?_
                refine tc_cond rfl (fun h => ?_) (fun h => ?_)
                · have hk : k < ls[i].length + 70 := by simp at h; omega
                  have hk1 := mks_at (i := i) hk
                  refine tc_skip ?_
                  refine q_then_n ?_
                  refine tc_seq ?_
                  refine tc_block ?_
                  refine tc_seq ?_
                  refine tc_regq mo (by kernel_rfl) ?_
                  refine ql_v rfl (o_move (by conv => lhs; whnf)) ?_
                  refine ql_v rfl (o_move (by conv => lhs; whnf)) ?_
                  refine ql_v rfl (o_ixP1 Try.underlying33 sz28 rfl rfl (by first | omega | (simp only [bys_length, ints_length, wds_length, bos_length, List.length_append, List.length_take, List.length_drop, List.length_singleton]; omega)) (by repeat (first | exact nn_some | with_reducible exact nn_sl (by decide) | exact nn_rs (by assumption) (fun _ => by first | omega | (simp only [bys_length, ints_length, wds_length, bos_length, List.length_append, List.length_take, List.length_drop, List.length_singleton]; omega)) | apply Nn.left))) ?_
                  refine ql_v rfl (o_ldP p28 rfl (by repeat (first | assumption | with_reducible exact rs_sl | with_reducible exact rs_pt0 | exact rs_none | apply Rs.left)) (by first | assumption | exact bys_at (by omega) | exact ints_at (by omega) | exact wds_at (by omega) | exact bos_at (by omega) | rfl)) ?_
                  refine ql_v rfl (o_move (by conv => lhs; whnf)) ?_
                  refine ql_v rfl (o_ixP1 Try.underlying28 sz5 rfl rfl (by first | omega | (simp only [bys_length, ints_length, wds_length, bos_length, List.length_append, List.length_take, List.length_drop, List.length_singleton]; omega)) (by repeat (first | exact nn_some | with_reducible exact nn_sl (by decide) | exact nn_rs (by assumption) (fun _ => by first | omega | (simp only [bys_length, ints_length, wds_length, bos_length, List.length_append, List.length_take, List.length_drop, List.length_singleton]; omega)) | apply Nn.left))) ?_
                  refine ql_v rfl (o_ldP p5 rfl (by repeat (first | assumption | with_reducible exact rs_sl | with_reducible exact rs_pt0 | exact rs_none | apply Rs.left)) (by first | assumption | exact bys_at (by omega) | exact ints_at (by omega) | exact wds_at (by omega) | exact bos_at (by omega) | rfl)) ?_
                  refine ql_v rfl (o_move (by conv => lhs; whnf)) ?_
                  refine ql_v rfl (o_move (by conv => lhs; whnf)) ?_
                  refine ql_c rfl (fun w => exec_call bd86 rfl) (mark_c) ?_
                  refine ql_v rfl (o_nei rfl rfl) ?_
                  refine ql_v rfl (o_move (by conv => lhs; whnf)) ?_
                  refine ql_bool (d := 91) rfl (fun h => ?_) (fun h => ?_)
                  · exfalso; simp at h
                  · try simp only [decide_eq_true_eq, decide_eq_false_iff_not, Bool.not_eq_true', Bool.not_eq_false', Option.isNone_some, Option.isNone_none, Bool.not_true, Bool.not_false] at h
                    refine ql_v rfl (o_move (by conv => lhs; whnf)) ?_
                    refine ql_v rfl (o_move (by conv => lhs; whnf)) ?_
                    refine ql_v rfl (o_move (by conv => lhs; whnf)) ?_
                    refine ql_v rfl (o_ixP1 Try.underlying33 sz28 rfl rfl (by first | omega | (simp only [bys_length, ints_length, wds_length, bos_length, List.length_append, List.length_take, List.length_drop, List.length_singleton]; omega)) (by repeat (first | exact nn_some | with_reducible exact nn_sl (by decide) | exact nn_rs (by assumption) (fun _ => by first | omega | (simp only [bys_length, ints_length, wds_length, bos_length, List.length_append, List.length_take, List.length_drop, List.length_singleton]; omega)) | apply Nn.left))) ?_
                    refine ql_v rfl (o_ldP p28 rfl (by repeat (first | assumption | with_reducible exact rs_sl | with_reducible exact rs_pt0 | exact rs_none | apply Rs.left)) (by first | assumption | exact bys_at (by omega) | exact ints_at (by omega) | exact wds_at (by omega) | exact bos_at (by omega) | rfl)) ?_
                    refine ql_v rfl (o_len Try.underlying28 rfl) ?_
                    refine ql_v rfl (o_lss rfl rfl) ?_
                    refine ql_v rfl (o_move (by conv => lhs; whnf)) ?_
                    refine ql_bool (d := 99) rfl (fun h => ?_) (fun h => ?_)
                    · have hk2 : k < ls[i].length := by simp at h; omega
                      have hk3 := mks_at (i := i) hk2
                      refine ql_v rfl (o_move (by conv => lhs; whnf)) ?_
                      refine ql_v rfl (o_move (by conv => lhs; whnf)) ?_
                      refine ql_v rfl (o_ixP1 Try.underlying33 sz28 rfl rfl (by first | omega | (simp only [bys_length, ints_length, wds_length, bos_length, List.length_append, List.length_take, List.length_drop, List.length_singleton]; omega)) (by repeat (first | exact nn_some | with_reducible exact nn_sl (by decide) | exact nn_rs (by assumption) (fun _ => by first | omega | (simp only [bys_length, ints_length, wds_length, bos_length, List.length_append, List.length_take, List.length_drop, List.length_singleton]; omega)) | apply Nn.left))) ?_
                      refine ql_v rfl (o_ldP p28 rfl (by repeat (first | assumption | with_reducible exact rs_sl | with_reducible exact rs_pt0 | exact rs_none | apply Rs.left)) (by first | assumption | exact bys_at (by omega) | exact ints_at (by omega) | exact wds_at (by omega) | exact bos_at (by omega) | rfl)) ?_
                      refine ql_v rfl (o_move (by conv => lhs; whnf)) ?_
                      refine ql_v rfl (o_ixP1 Try.underlying28 sz5 rfl rfl (by first | omega | (simp only [bys_length, ints_length, wds_length, bos_length, List.length_append, List.length_take, List.length_drop, List.length_singleton]; omega)) (by repeat (first | exact nn_some | with_reducible exact nn_sl (by decide) | exact nn_rs (by assumption) (fun _ => by first | omega | (simp only [bys_length, ints_length, wds_length, bos_length, List.length_append, List.length_take, List.length_drop, List.length_singleton]; omega)) | apply Nn.left))) ?_
                      refine ql_v rfl (o_ldP p5 rfl (by repeat (first | assumption | with_reducible exact rs_sl | with_reducible exact rs_pt0 | exact rs_none | apply Rs.left)) (by first | assumption | exact bys_at (by omega) | exact ints_at (by omega) | exact wds_at (by omega) | exact bos_at (by omega) | rfl)) ?_
                      refine ql_v rfl (o_move (by conv => lhs; whnf)) ?_
                      refine ql_v rfl (o_move (by conv => lhs; whnf)) ?_
                      refine ql_c rfl (fun w => exec_call bd86 rfl) (mark_c) ?_
                      refine ql_v rfl (o_nei rfl rfl) ?_
                      refine ql_v rfl (o_pick_t rfl (by conv => lhs; whnf)) ?_
                      refine ql_v rfl (o_pick_f rfl (by conv => lhs; whnf)) ?_
                      refine ql_nil ?_
                      refine q_then_n ?_
                      refine tc_cond rfl (fun h => ?_) (fun h => ?_)
                      · exfalso; simp at h
                      · try simp only [decide_eq_true_eq, decide_eq_false_iff_not, Bool.not_eq_true', Bool.not_eq_false', Option.isNone_some, Option.isNone_none, Bool.not_true, Bool.not_false] at h
                        refine tc_skip ?_
                        refine q_block_n (q_then_n ?_)
                        refine tc_reg ?_
                        refine tl_v rfl (o_move (by conv => lhs; whnf)) ?_
                        refine tl_v rfl (by first | exact o_addI rfl rfl (by omega) | exact o_add rfl rfl) ?_
                        refine tl_v rfl (o_assign (by conv => lhs; whnf)) ?_
                        refine tl_nil ?_
                        refine q_then_n ?_
                        exact ⟨_, by omega, k + 1, by omega, rfl, rfl, rfl, rfl, rfl, rfl⟩
                    · try simp only [decide_eq_true_eq, decide_eq_false_iff_not, Bool.not_eq_true', Bool.not_eq_false', Option.isNone_some, Option.isNone_none, Bool.not_true, Bool.not_false] at h
                      refine ql_skip rfl ?_
                      refine ql_skip rfl ?_
                      refine ql_skip rfl ?_
                      refine ql_skip rfl ?_
                      refine ql_skip rfl ?_
                      refine ql_skip rfl ?_
                      refine ql_skip rfl ?_
                      refine ql_skip rfl ?_
                      refine ql_skip rfl ?_
                      refine ql_skip rfl ?_
                      refine ql_skip rfl ?_
                      refine ql_v rfl (o_pick_f rfl (by conv => lhs; whnf)) ?_
                      refine ql_v rfl (o_pick_f rfl (by conv => lhs; whnf)) ?_
                      refine ql_nil ?_
                      refine q_then_n ?_
                      refine tc_cond_f rfl ?_
                      refine tc_skip ?_
                      refine q_block_n (q_then_n ?_)
                      refine tc_reg ?_
                      refine tl_v rfl (o_move (by conv => lhs; whnf)) ?_
                      refine tl_v rfl (by first | exact o_addI rfl rfl (by omega) | exact o_add rfl rfl) ?_
                      refine tl_v rfl (o_assign (by conv => lhs; whnf)) ?_
                      refine tl_nil ?_
                      refine q_then_n ?_
                      exact ⟨_, by omega, k + 1, by omega, rfl, rfl, rfl, rfl, rfl, rfl⟩
                · try simp only [decide_eq_true_eq, decide_eq_false_iff_not, Bool.not_eq_true', Bool.not_eq_false', Option.isNone_some, Option.isNone_none, Bool.not_true, Bool.not_false] at h
                  refine tc_exit ?_
                  refine q_then_e (q_then_e (q_block_x (q_block_n (q_then_n ?_))))
                  refine tc_reg ?_
                  refine tl_v rfl (o_move (by conv => lhs; whnf)) ?_
                  refine tl_v rfl (by first | exact o_addI rfl rfl (by omega) | exact o_add rfl rfl) ?_
                  refine tl_v rfl (o_assign (by conv => lhs; whnf)) ?_
                  refine tl_nil ?_
                  refine q_then_n ?_
                  exact ⟨_, by omega, i + 1, by omega, rfl, rfl, rfl, rfl, rfl⟩
            · try simp only [decide_eq_true_eq, decide_eq_false_iff_not, Bool.not_eq_true', Bool.not_eq_false', Option.isNone_some, Option.isNone_none, Bool.not_true, Bool.not_false] at h
              refine tc_exit ?_
              refine q_then_e (q_then_e (q_block_x (q_then_n ?_)))
              refine tc_seq ?_
              refine tc_reg ?_
              refine tl_v rfl (o_assign (by conv => lhs; whnf)) ?_
              refine tl_nil ?_
              refine q_then_n ?_
              refine tc_ret ?_
              exact ⟨.bool true, F, res1 rfl rfl, Dr.sat (by repeat (first | with_reducible exact dr_refl | apply dr_keep | apply dr_drop)), rfl, rfl⟩

end Go.Vl
