/- What the row rests on, part 4: a calculus of assertions, walks of functions over it, and plain laws. Conditions: none. -/
import Derived.Deep.QuietTactic
import Derived.BigQuiet
import Derived.WalkKit
import Derived.Test.YtimckjnnjakcoaaProg
import Derived.OrdersHeld
import Derived.Deep.Slices
import Derived.OpenShut
import Derived.ChangeArms
import Derived.SizedLaws
import Derived.ChangeSame
import Derived.Test.YtimckjnnjakcoaaRows
import Derived.Laws.BytesArg
import Derived.RangeFuncRecord
import Derived.TacticsIn
import Derived.Test.YtimckjnnjakcoaaMg3
set_option linter.unusedVariables false
set_option linter.unusedSimpArgs false
namespace Go.Vl
open Go Go.Proofs
theorem o_apGr {P : Program} {n : Nat} {ρ : Env} {A : SP} {dst : Option Tmp} {ty : TypeId} {pos : String} {after : Array Edge} {gd : Option (Nat × Bool)} {t t' e e' : TypeId} {x y : Operand} {v z : Value} {p m q bytes c c0 b : Nat} {a : Option Addr} {os xs ys zs : List Value} {A0 R : SP} {C : SP → SP} {E : TypeId}
    (hu : P.underlying t = some (.slice e)) (hu' : P.underlying t' = some (.slice e')) (hk : szE P e = some 1) (hb : bytesE P e = some bytes) (hz : zeroE P e = some z) (hzk : z.cells.size = 1) (hb0 : 0 < bytes)
    (hx : ev n ρ x = .slice a q c0) (hy : ev n ρ y = .slice (some ⟨b, 0, none⟩) m c) (hA : A = A0 * pt b (cl ys E)) (hf : Ct A0 (Gr v p os (.slice a q c0) q xs) R C) (hm : ys.length = m) (ho : ys.all oneC = true) (hlim : (q + m) * bytes ≤ 140737488355328) (he : xs ++ ys = zs) :
    OpX P n ρ A ⟨dst, .call { callee := .builtin .append, args := #[x, y], argTypes := #[t, t'] }, ty, pos, after, gd⟩ (fun v' B => ∃ a' c', v' = .slice a' (q + m) c' ∧ q + m ≤ c' ∧ B = C (Gr v p os (.slice a' (q + m) c') (q + m) zs)) := fun g w hs => by
  subst he
  obtain ⟨rfl, hC⟩ := hf
  obtain ⟨v', w', B, hr, hB, rfl⟩ := o_appendGr (dst := dst) (ty := ty) (pos := pos) (after := after) (gd := gd) (R := R * pt b (cl ys E)) hu hu' hk hb hz hzk hb0 hx hy (by rw [hA, star_swap])
    (rd_cells (cells_of_has (k := ys.length) (by rw [hA]; exact has_here) (by simp))) hm (fun u hu => List.all_eq_true.1 ho u hu) hlim g w hs
  have hB2 : sat g w' (R * Gr v p os v' (q + m) (xs ++ ys)) := hB.drop2
  obtain ⟨_, _, a', c', _, e2, _, _, _, g2, _⟩ := gr_have hB2
  subst e2
  exact ⟨_, w', _, hr, hB2, a', c', rfl, g2, (hC _).symm⟩
/-- The mark of a place. -/
def mk (i k : Nat) : Nat := (i * 31 + k * 7 + 1) % 256
/-- The marks of a list. -/
def mks (i n : Nat) : List Nat := (List.range n).map (mk i)
theorem mks_length (i n : Nat) : (mks i n).length = n := by simp [mks]
theorem mks_succ (i n : Nat) : mks i (n + 1) = mks i n ++ [mk i n] := by simp [mks, List.range_succ]
theorem mks_at {i n k : Nat} (h : k < n) : (bys (mks i n))[k]? = some (.int .u8 ((mk i k : Nat) : Int)) := by simp [bys, mks, h, b8]
theorem mks_pm (i : Nat) (l : List Nat) : pm (fun k _ => mk i k) l.length l = mks i l.length := by
  rw [pm_all]
  apply List.ext_getElem?
  intro j
  simp only [mks, List.getElem?_mapIdx, List.getElem?_map, List.getElem?_range']
  rcases Nat.lt_or_ge j l.length with h | h
  · simp [h]
  · simp [h]
def mkL (j : Nat) (l : List Nat) : List Nat := mks j l.length
/-- Lists that bear their marks; the first of them is number j. -/
def PM : Nat → List Value → List Nat → SP
  | j, v :: vs, n :: ns => PM (j + 1) vs ns * Sl 1 v n (bys (mks j n))
  | _, [], [] => emp
  | _, _, _ => pure_ False
/-- Such lists, and what they were grown to. -/
def GP : Nat → List Value → List Value → List Nat → SP
  | j, v :: vs, g :: gs, n :: ns => GP (j + 1) vs gs ns * Gr v n (bys (mks j n)) g (n + 70) (bys (mks j (n + 70)))
  | _, [], [], [] => emp
  | _, _, _, _ => pure_ False
theorem parts_PM : ∀ {vs : List Value} {ls : List (List Nat)} {j : Nat}, vs.length = ls.length → Parts vs (ls.mapIdx fun i l => mks (j + i) l.length) = PM j vs (ls.map List.length)
  | [], [], _, _ => rfl
  | v :: vs, l :: ls, j, h => by
    have ih := parts_PM (vs := vs) (ls := ls) (j := j + 1) (by simpa using h)
    rw [List.mapIdx_cons]
    show Parts vs (ls.mapIdx fun i l => mks (j + (i + 1)) l.length) * Sl 1 v (mks (j + 0) l.length).length (bys (mks (j + 0) l.length)) = PM (j + 1) vs (ls.map List.length) * Sl 1 v l.length (bys (mks j l.length))
    rw [mks_length, Nat.add_zero, ← ih]
    congr 2
    apply List.ext_getElem?
    intro i
    simp only [List.getElem?_mapIdx, show j + (i + 1) = j + 1 + i by omega]
theorem GP_snoc : ∀ {vs gs : List Value} {ns : List Nat} {j : Nat} {v g : Value} {n : Nat} (_ : vs.length = ns.length) (_ : gs.length = ns.length), GP j (vs ++ [v]) (gs ++ [g]) (ns ++ [n]) = GP j vs gs ns * Gr v n (bys (mks (j + ns.length) n)) g (n + 70) (bys (mks (j + ns.length) (n + 70)))
  | [], [], [], _, _, _, _, _, _ => rfl
  | [], _ :: _, [], _, _, _, _, _, h => by simp at h
  | [], _ :: _, _ :: _, _, _, _, _, h, _ => by simp at h
  | [], [], _ :: _, _, _, _, _, h, _ => by simp at h
  | _ :: _, [], [], _, _, _, _, h, _ => by simp at h
  | _ :: _, [], _ :: _, _, _, _, _, _, h => by simp at h
  | _ :: _, _ :: _, [], _, _, _, _, h, _ => by simp at h
  | u :: vs, h :: gs, x :: ns, j, v, g, n, h1, h2 => by
    show GP (j + 1) (vs ++ [v]) (gs ++ [g]) (ns ++ [n]) * Gr u x _ h _ _ = _
    rw [GP_snoc (by simpa using h1) (by simpa using h2)]
    show _ = GP (j + 1) vs gs ns * Gr u x (bys (mks j x)) h (x + 70) (bys (mks j (x + 70))) * _
    rw [star_swap, List.length_cons, show j + 1 + ns.length = j + (ns.length + 1) by omega]
theorem GP_get : ∀ {vs gs : List Value} {ns : List Nat} {j i : Nat} (h1 : vs.length = ns.length) (h2 : gs.length = ns.length) (hi : i < ns.length), ∃ R, GP j vs gs ns = R * Gr (vs[i]'(by omega)) ns[i] (bys (mks (j + i) ns[i])) (gs[i]'(by omega)) (ns[i] + 70) (bys (mks (j + i) (ns[i] + 70)))
  | _, _, [], _, _, _, _, h => by simp at h
  | [], _, _ :: _, _, _, h, _, _ => by simp at h
  | _ :: _, [], _ :: _, _, _, _, h, _ => by simp at h
  | v :: vs, g :: gs, n :: ns, j, 0, _, _, _ => ⟨GP (j + 1) vs gs ns, rfl⟩
  | v :: vs, g :: gs, n :: ns, j, i + 1, h1, h2, hi => by
    obtain ⟨R, e⟩ := GP_get (vs := vs) (gs := gs) (ns := ns) (j := j + 1) (i := i) (by simpa using h1) (by simpa using h2) (by simpa using hi)
    refine ⟨R * Gr v n (bys (mks j n)) g (n + 70) (bys (mks j (n + 70))), ?_⟩
    show GP (j + 1) vs gs ns * _ = _
    rw [e, star_swap, show j + 1 + i = j + (i + 1) by omega]; rfl
theorem PM_at {vs : List Value} {ns : List Nat} {i : Nat} (h1 : vs.length = ns.length) (hi : i < ns.length) : PM i (vs.drop i) (ns.drop i) = PM (i + 1) (vs.drop (i + 1)) (ns.drop (i + 1)) * Sl 1 (vs[i]'(by omega)) ns[i] (bys (mks i ns[i])) := by
  rw [List.drop_eq_getElem_cons hi, List.drop_eq_getElem_cons (show i < vs.length by omega)]; rfl
theorem GP_read {X : SP} {vs gs : List Value} {ns : List Nat} {i : Nat} (h1 : vs.length = ns.length) (h2 : gs.length = ns.length) (hi : i < ns.length) {g : Gh} {w : World} (hs : sat g w (X * GP 0 vs gs ns)) :
    ∃ ai ci ag cg, vs[i]? = some (.slice ai ns[i] ci) ∧ gs[i]? = some (.slice ag (ns[i] + 70) cg) ∧ Rs (X * GP 0 vs gs ns) ai (bys (mks i ns[i])) ∧ Rs (X * GP 0 vs gs ns) ag (bys (mks i (ns[i] + 70))) := by
  obtain ⟨R, e⟩ := GP_get (j := 0) h1 h2 hi
  rw [e, ← star_assoc, Nat.zero_add] at hs ⊢
  obtain ⟨ai, ci, ag, cg, e1, e2, _, _, _, _, h3, h4⟩ := gr_have hs
  exact ⟨ai, ci, ag, cg, by rw [List.getElem?_eq_getElem (by omega), e1], by rw [List.getElem?_eq_getElem (by omega), e2], rs_rd h3, rs_rd h4⟩
theorem pm_mkL {ls : List (List Nat)} : pm mkL ls.length ls = ls.mapIdx fun i l => mks (0 + i) l.length := by
  rw [pm_all]
  apply List.ext_getElem?
  intro i
  simp only [List.getElem?_mapIdx, Nat.zero_add]; rfl
theorem parts_row {vs : List Value} {ls : List (List Nat)} {i : Nat} (h : vs.length = ls.length) (hi : i < ls.length) : ∃ R, (∀ A, A * Parts vs ls = A * R * Sl 1 (vs[i]'(by omega)) ls[i].length (bys ls[i])) ∧ ∀ A l, A * R * Sl 1 (vs[i]'(by omega)) l.length (bys l) = A * Parts vs (ls.set i l) := by
  obtain ⟨R, e1, e2⟩ := parts_get (vs := vs) (ls := ls) h hi
  refine ⟨R, fun A => by rw [e1, star_assoc], fun A l => ?_⟩
  have := e2 (vs[i]'(by omega)) l
  rw [set_getElem (by omega)] at this
  rw [this, star_assoc]
theorem gr_same' {v : Value} {n : Nat} {xs : List Value} {R : SP} : ∀ g w, sat g w (R * Sl 1 v n xs) → sat g w (R * Gr v n xs v n xs) := fun g w h => gr_same h
attribute [local irreducible] Sl SlR pt ro Parts Gr
theorem mark_c {A : SP} {i k : Nat} (h : i ≤ 1099511627776 ∧ k ≤ 1099511627776 := by omega) :
    Fn Try.prog 86 #[.int .i64 (i : Nat), .int .i64 (k : Nat)] (A) (fun r B => r = .int .u8 ((mk i k : Nat) : Int) ∧ A = B) := by
  refine fn_enterW (args := [.int .i64 (i : Nat), .int .i64 (k : Nat)]) Try.func86 rfl Try.ntmps86 (by simp) ?_; refine sr ?_; refine tla ?_; refine nq ?_; refine sr ?_; refine tlm ?_; refine tv (by first | exact o_mulI rfl rfl (by omega) | exact o_mul rfl rfl) ?_; refine tlm ?_; refine tv (by first | exact o_mulI rfl rfl (by omega) | exact o_mul rfl rfl) ?_; refine tv (by first | exact o_addI rfl rfl (by omega) | exact o_add rfl rfl) ?_; refine tv (by first | exact o_addI rfl rfl (by omega) | exact o_add rfl rfl) ?_; refine tl_env (d := 10) (v := .int .i64 ((i * 31 + k * 7 + 1 : Nat) : Int)) (rfl) ?_; refine tv (by first | exact o_conv8 Try.underlying3 Try.underlying5 rfl | exact o_conv Try.underlying3 Try.underlying5 rfl) ?_; refine tla ?_; refine nq ?_; refine tc_ret ?_; exact ⟨.int .u8 (((i * 31 + k * 7 + 1) % 256 : Nat) : Int), A, res1 rfl rfl, fun _ _ h => h, rfl, rfl⟩
set_option maxRecDepth 20000 in
set_option maxHeartbeats 1000000 in
theorem Apart_c {F : SP} {a : Option Addr} {m c : Nat} {vs : List Value} (ls : List (List Nat)) (hm : ls.length = m) (hl : m ≤ 1048576) (hls : ∀ l ∈ ls, l.length ≤ 137438953472) :
    Fn Try.prog 23 #[.slice a m c] (F * Parts vs ls * Sl 1 (.slice a m c) m vs) (fun r B => r = .bool true ∧ B = F) := by
  have hE := @fn_enterW Try.prog 23 Try.f23 _ [.slice a m c] (F * Parts vs ls * Sl 1 (.slice a m c) m vs) (fun r B => r = .bool true ∧ B = F) _ Try.func23 rfl Try.ntmps23 (by simp)
  refine hE ?_
  clear hE
  refine tc_have (fun _ _ h => parts_len h.left) fun hvl => ?_
  rw [star_swap]
  refine sr ?_; refine tla ?_; refine nq ?_; refine tc_seq ?_; refine sr ?_; refine tla ?_; refine nq ?_; refine tc_block ?_; refine tc_loop (fun kk ρ BB => ∃ (i : Nat), (i ≤ m) ∧ kk = m - i ∧ ρ 3 = .int .i64 (i : Nat) ∧ ρ 0 = .slice a m c ∧ BB = F * Sl 1 (.slice a m c) m vs * Parts vs (pm mkL i ls)) (m := m - (0)) ?_ ?_
  · exact ⟨0, by omega, rfl, rfl, rfl, by rw [pm_zero]⟩
  · intro k ρ B hI
    obtain ⟨i, hp0, hkk1, hE3, hE0, rfl⟩ := hI
    refine tc_env (d := 3) hE3 ?_; refine tc_env (d := 0) hE0 ?_
    clear hE3 hE0
    refine tc_seq ?_; refine sr ?_; refine tlm ?_; refine tlm ?_; refine tv (o_len Try.underlying33 rfl) ?_; refine tv (o_lss rfl rfl) ?_; refine nq ?_; refine tc_cond rfl (fun h => ?_) (fun h => ?_)
    · have hi : i < ls.length := by simp at h; omega
      have hip : i < (pm mkL i ls).length := by rw [pm_length]; exact hi
      obtain ⟨R, hR1, hR2⟩ := parts_row (vs := vs) (ls := pm mkL i ls) (i := i) (by rw [pm_length]; exact hvl) hip
      rw [pm_at mkL hi] at hR1
      have hlsi := hls _ (List.getElem_mem hi)
      refine tc_eq (hR1 _) ?_; refine tc_have (fun _ _ h => sl_have h) fun ⟨ai, ci, hvi, hci, _, _⟩ => ?_
      rw [hvi]
      have hvi2 : vs[i]? = some (.slice ai ls[i].length ci) := by rw [List.getElem?_eq_getElem (by omega), hvi]
      refine tc_skip ?_; refine q_then_n ?_; refine tc_seq ?_; refine tc_block ?_; refine sr ?_; refine tla ?_; refine nq ?_; refine tc_block ?_; refine tc_loop (fun kk ρ BB => ∃ (k : Nat), (k ≤ ls[i].length) ∧ kk = ls[i].length - k ∧ ρ 4 = .int .i64 (k : Nat) ∧ ρ 0 = .slice a m c ∧ ρ 3 = .int .i64 (i : Nat) ∧ BB = F * Sl 1 (.slice a m c) m vs * R * Sl 1 (.slice ai ls[i].length ci) ls[i].length (bys (pm (fun k _ => mk i k) k ls[i]))) (m := ls[i].length - (0)) ?_ ?_
      · exact ⟨0, by omega, rfl, rfl, rfl, rfl, by rw [pm_zero]⟩
      · intro k ρ B hI
        obtain ⟨k, hp0, hkk2, hE4, hE0, hE3, rfl⟩ := hI
        refine tc_env (d := 4) hE4 ?_; refine tc_env (d := 0) hE0 ?_; refine tc_env (d := 3) hE3 ?_
        clear hE4 hE0 hE3
        refine tc_seq ?_; refine sr ?_; refine tlm ?_; refine tlm ?_; refine tlm ?_; refine tv (o_ixP1 Try.underlying33 sz28 rfl rfl (by first | omega | (simp only [bys_length, ints_length, wds_length, bos_length, List.length_append, List.length_take, List.length_drop, List.length_singleton]; omega)) (by repeat (first | exact nn_some | with_reducible exact nn_sl (by decide) | exact nn_rs (by assumption) (fun _ => by first | omega | (simp only [bys_length, ints_length, wds_length, bos_length, List.length_append, List.length_take, List.length_drop, List.length_singleton]; omega)) | apply Nn.left))) ?_; refine tv (o_ldP p28 rfl (by repeat (first | assumption | with_reducible exact rs_sl | with_reducible exact rs_pt0 | exact rs_none | apply Rs.left)) (by first | assumption | exact bys_at (by omega) | exact ints_at (by omega) | exact wds_at (by omega) | exact bos_at (by omega) | rfl)) ?_; refine tv (o_len Try.underlying28 rfl) ?_; refine tv (o_lss rfl rfl) ?_; refine nq ?_; refine tc_cond rfl (fun h => ?_) (fun h => ?_)
        · have hk : k < ls[i].length := by simp at h; omega
          refine tc_have (fun g w h => nn_sl (by decide) g w h (show 0 < ls[i].length by omega)) fun ⟨bi, oi, ei⟩ => ?_
          subst ei
          refine tc_skip ?_; refine q_then_n ?_; refine tc_seq ?_; refine tc_block ?_; refine tc_regh (S := F * Sl 1 (.slice a m c) m vs * R) mo (by repeat (first | with_reducible exact dr_refl | apply dr_keep | apply dr_drop)) ?_
          show TH _ _ _ _ _ 10 #[ff,ff,ff,ff,ff,ff,ff,ff,ff,ff] _ _
          refine th_take (i := 0) (listed' := #[tt,ff,ff,ff,ff,ff,ff,ff,ff,ff]) rfl (by kernel_rfl) (by kernel_rfl) (by kernel_rfl) rfl rfl (o_move (by conv => lhs; whnf)) ?_; refine th_take (i := 1) (listed' := #[tt,tt,ff,ff,ff,ff,ff,ff,ff,ff]) rfl (by kernel_rfl) (by kernel_rfl) (by kernel_rfl) rfl rfl (o_move (by conv => lhs; whnf)) ?_; refine th_take (i := 2) (listed' := #[tt,tt,tt,ff,ff,ff,ff,ff,ff,ff]) rfl (by kernel_rfl) (by kernel_rfl) (by kernel_rfl) rfl rfl (o_ixP1 Try.underlying33 sz28 rfl rfl (by first | omega | (simp only [bys_length, ints_length, wds_length, bos_length, List.length_append, List.length_take, List.length_drop, List.length_singleton]; omega)) (by repeat (first | exact nn_some | with_reducible exact nn_sl (by decide) | exact nn_rs (by assumption) (fun _ => by first | omega | (simp only [bys_length, ints_length, wds_length, bos_length, List.length_append, List.length_take, List.length_drop, List.length_singleton]; omega)) | apply Nn.left))) ?_; refine th_take (i := 3) (listed' := #[tt,tt,tt,tt,ff,ff,ff,ff,ff,ff]) rfl (by kernel_rfl) (by kernel_rfl) (by kernel_rfl) rfl rfl (o_ldP p28 rfl (by repeat (first | assumption | with_reducible exact rs_sl | with_reducible exact rs_pt0 | exact rs_none | apply Rs.left)) (by first | assumption | exact bys_at (by omega) | exact ints_at (by omega) | exact wds_at (by omega) | exact bos_at (by omega) | rfl)) ?_; refine th_take (i := 4) (listed' := #[tt,tt,tt,tt,tt,ff,ff,ff,ff,ff]) rfl (by kernel_rfl) (by kernel_rfl) (by kernel_rfl) rfl rfl (o_move (by conv => lhs; whnf)) ?_
          refine th_take (i := 5) (listed' := #[tt,tt,tt,tt,tt,tt,ff,ff,ff,ff]) rfl (by kernel_rfl) (by kernel_rfl) (by kernel_rfl) rfl rfl (o_move (by conv => lhs; whnf)) ?_; refine th_take (i := 6) (listed' := #[tt,tt,tt,tt,tt,tt,tt,ff,ff,ff]) rfl (by kernel_rfl) (by kernel_rfl) (by kernel_rfl) rfl rfl (o_move (by conv => lhs; whnf)) ?_; refine th_one (i := 7) (by kernel_rfl) ?_; refine oh_c (i := 7) (listed' := #[tt,tt,tt,tt,tt,tt,tt,tt,ff,ff]) rfl rfl rfl (o_call bd86 rfl (mark_c)) ?_; rintro _ _ ⟨rfl, rfl⟩; refine ⟨by repeat (first | with_reducible exact dr_refl | apply dr_keep | apply dr_drop), ?_⟩; refine th_take (i := 8) (listed' := #[tt,tt,tt,tt,tt,tt,tt,tt,tt,ff]) rfl (by kernel_rfl) (by kernel_rfl) (by kernel_rfl) rfl rfl (o_ixP1 Try.underlying28 sz5 rfl rfl (by first | omega | (simp only [bys_length, ints_length, wds_length, bos_length, List.length_append, List.length_take, List.length_drop, List.length_singleton]; omega)) (by repeat (first | exact nn_some | with_reducible exact nn_sl (by decide) | exact nn_rs (by assumption) (fun _ => by first | omega | (simp only [bys_length, ints_length, wds_length, bos_length, List.length_append, List.length_take, List.length_drop, List.length_singleton]; omega)) | apply Nn.left))) ?_; refine th_one (i := 9) (by kernel_rfl) ?_; refine oh_u (i := 9) (listed' := #[tt,tt,tt,tt,tt,tt,tt,tt,tt,tt]) rfl rfl rfl (o_stP sz5 rfl rfl rfl (by repeat (first | with_reducible exact ct_here | apply ct_left)) (by omega) (by first | exact bys_set _ _ _ | exact ints_set _ _ _ | exact wds_set' _ _ _ | exact bos_set _ _ _ | rfl)) (by repeat (first | with_reducible exact dr_refl | apply dr_keep | apply dr_drop)) ?_
          refine th_done (by kernel_rfl) ?_; refine q_block_n (q_then_n ?_); refine tc_reg ?_; refine tlm ?_; refine tv (by first | exact o_addI rfl rfl (by omega) | exact o_add rfl rfl) ?_; refine tla ?_; refine nq ?_; exact ⟨_, by omega, k + 1, by omega, rfl, rfl, rfl, rfl, by rw [← pm_set (fun k _ => mk i k) hk]⟩
        · try simp only [lv1, lv2, lv3, lv4, lv5, lv6, Bool.not_true, Bool.not_false] at h
          refine tc_exit ?_; refine q_then_e (q_then_e (q_block_x (q_block_n (q_then_n ?_))))
          obtain rfl : k = ls[i].length := by omega
          refine tc_eq (show _ = F * Sl 1 (.slice a m c) m vs * Parts vs (pm mkL (i + 1) ls) by rw [← pm_set mkL hi, mks_pm]; have := hR2 (F * Sl 1 (.slice a m c) m vs) (mks i ls[i].length); rw [hvi, mks_length] at this; exact this) ?_; refine tc_reg ?_; refine tlm ?_; refine tv (by first | exact o_addI rfl rfl (by omega) | exact o_add rfl rfl) ?_; refine tla ?_; refine nq ?_; exact ⟨_, by omega, i + 1, by omega, rfl, rfl, rfl, rfl⟩
    · try simp only [lv1, lv2, lv3, lv4, lv5, lv6, Bool.not_true, Bool.not_false] at h
      refine tc_exit ?_; refine q_then_e (q_then_e (q_block_x (q_then_n ?_))); refine tc_seq ?_
      obtain rfl : i = ls.length := by omega
      rw [pm_mkL, parts_PM hvl]
      refine tc_reg ?_; refine tla ?_; refine nq ?_; refine tc_seq ?_; refine sr ?_; refine tla ?_; refine nq ?_; refine tc_block ?_; refine tc_pre (fun _ _ h => sl_nil (k := 1) h) ?_; refine tc_eq (show _ = F * Sl 1 (.slice a m c) m vs * GP 0 [] [] [] * PM 0 vs (ls.map List.length) * Sl 1 (.slice none 0 0) 0 [] by rw [show GP 0 [] [] [] = emp from rfl, star_emp]) ?_; refine tc_loop (fun kk ρ BB => ∃ (i : Nat) (a5 : Option Addr) (c5 : Nat) (gs : List Value), (i ≤ m) ∧ (gs.length = i) ∧ kk = m - i ∧ ρ 5 = .slice a5 i c5 ∧ ρ 6 = .int .i64 (i : Nat) ∧ ρ 0 = .slice a m c ∧ BB = F * Sl 1 (.slice a m c) m vs * GP 0 (vs.take i) gs ((ls.map List.length).take i) * PM i (vs.drop i) ((ls.map List.length).drop i) * Sl 1 (.slice a5 i c5) i gs) (m := m - (0)) ?_ ?_
      · exact ⟨0, none, 0, [], by omega, rfl, rfl, rfl, rfl, rfl, rfl⟩
      · intro k ρ B hI
        obtain ⟨i, a5, c5, gs, hp0, hp1, hkk3, hE5, hE6, hE0, rfl⟩ := hI
        refine tc_env (d := 5) hE5 ?_; refine tc_env (d := 6) hE6 ?_; refine tc_env (d := 0) hE0 ?_
        clear hE5 hE6 hE0
        refine tc_seq ?_; refine sr ?_; refine tlm ?_; refine tlm ?_; refine tv (o_len Try.underlying33 rfl) ?_; refine tv (o_lss rfl rfl) ?_; refine nq ?_; refine tc_cond rfl (fun h => ?_) (fun h => ?_)
        · have hi : i < ls.length := by simp at h; omega
          have hin : i < (ls.map List.length).length := by simpa using hi
          have hpm := PM_at (vs := vs) (ns := ls.map List.length) (by simpa using hvl) hin
          simp only [List.getElem_map] at hpm
          have hlsi := hls _ (List.getElem_mem hi)
          refine tc_eq (show _ = F * Sl 1 (.slice a m c) m vs * GP 0 (vs.take i) gs ((ls.map List.length).take i) * PM (i + 1) (vs.drop (i + 1)) ((ls.map List.length).drop (i + 1)) * Sl 1 (.slice a5 i c5) i gs * Sl 1 vs[i] ls[i].length (bys (mks i ls[i].length)) by rw [hpm]; ac_rfl) ?_; refine tc_have (fun _ _ h => sl_have h) fun ⟨ai, ci, hvi, hci, _, _⟩ => ?_
          rw [hvi]
          have hvi2 : vs[i]? = some (.slice ai ls[i].length ci) := by rw [List.getElem?_eq_getElem (by omega), hvi]
          refine tc_pre gr_same' ?_; refine tc_skip ?_; refine q_then_n ?_; refine tc_seq ?_; refine tc_block ?_; refine sr ?_; refine tlm ?_; refine tlm ?_; refine tv (o_ixP1 Try.underlying33 sz28 rfl rfl (by first | omega | (simp only [bys_length, ints_length, wds_length, bos_length, List.length_append, List.length_take, List.length_drop, List.length_singleton]; omega)) (by repeat (first | exact nn_some | with_reducible exact nn_sl (by decide) | exact nn_rs (by assumption) (fun _ => by first | omega | (simp only [bys_length, ints_length, wds_length, bos_length, List.length_append, List.length_take, List.length_drop, List.length_singleton]; omega)) | apply Nn.left))) ?_; refine tv (o_ldP p28 rfl (by repeat (first | assumption | with_reducible exact rs_sl | with_reducible exact rs_pt0 | exact rs_none | apply Rs.left)) (by first | assumption | exact bys_at (by omega) | exact ints_at (by omega) | exact wds_at (by omega) | exact bos_at (by omega) | rfl)) ?_; refine tla ?_; refine nq ?_; refine tc_seq ?_; refine sr ?_; refine tla ?_; refine nq ?_; refine tc_block ?_; refine tc_loop (fun kk ρ BB => ∃ (k : Nat) (a7 : Option Addr) (c7 : Nat), (k ≤ 70) ∧ kk = 70 - k ∧ ρ 7 = .slice a7 (ls[i].length + k) c7 ∧ ρ 8 = .int .i64 (k : Nat) ∧ ρ 0 = .slice a m c ∧ ρ 5 = .slice a5 i c5 ∧ ρ 6 = .int .i64 (i : Nat) ∧ BB = F * Sl 1 (.slice a m c) m vs * GP 0 (vs.take i) gs ((ls.map List.length).take i) * PM (i + 1) (vs.drop (i + 1)) ((ls.map List.length).drop (i + 1)) * Sl 1 (.slice a5 i c5) i gs * Gr (.slice ai ls[i].length ci) ls[i].length (bys (mks i ls[i].length)) (.slice a7 (ls[i].length + k) c7) (ls[i].length + k) (bys (mks i (ls[i].length + k)))) (m := 70 - (0)) ?_ ?_
          · exact ⟨0, ai, ci, by omega, rfl, rfl, rfl, rfl, rfl, rfl, rfl⟩
          · intro k ρ B hI
            obtain ⟨k, a7, c7, hp0, hkk4, hE7, hE8, hE0, hE5, hE6, rfl⟩ := hI
            refine tc_env (d := 7) hE7 ?_; refine tc_env (d := 8) hE8 ?_; refine tc_env (d := 0) hE0 ?_; refine tc_env (d := 5) hE5 ?_; refine tc_env (d := 6) hE6 ?_
            clear hE7 hE8 hE0 hE5 hE6
            refine tc_seq ?_; refine sr ?_; refine tlm ?_; refine tv (o_lss rfl rfl) ?_; refine nq ?_; refine tc_cond rfl (fun h => ?_) (fun h => ?_)
            · try simp only [lv1, lv2, lv3, lv4, lv5, lv6, Bool.not_true, Bool.not_false] at h
              refine tc_skip ?_; refine q_then_n ?_; refine tc_seq ?_; refine tc_block ?_; refine tc_reg ?_; refine tlm ?_; refine tlm ?_; refine tlm ?_; refine tlm ?_; refine tv (o_ixP1 Try.underlying33 sz28 rfl rfl (by first | omega | (simp only [bys_length, ints_length, wds_length, bos_length, List.length_append, List.length_take, List.length_drop, List.length_singleton]; omega)) (by repeat (first | exact nn_some | with_reducible exact nn_sl (by decide) | exact nn_rs (by assumption) (fun _ => by first | omega | (simp only [bys_length, ints_length, wds_length, bos_length, List.length_append, List.length_take, List.length_drop, List.length_singleton]; omega)) | apply Nn.left))) ?_; refine tv (o_ldP p28 rfl (by repeat (first | assumption | with_reducible exact rs_sl | with_reducible exact rs_pt0 | exact rs_none | apply Rs.left)) (by first | assumption | exact bys_at (by omega) | exact ints_at (by omega) | exact wds_at (by omega) | exact bos_at (by omega) | rfl)) ?_; refine tv (o_len Try.underlying28 rfl) ?_; refine tlm ?_; refine tv (by first | exact o_addI rfl rfl (by omega) | exact o_add rfl rfl) ?_; refine tl_env (d := 57) (v := .int .i64 ((ls[i].length + k : Nat) : Int)) (rfl) ?_; refine tl_c rfl (o_call bd86 rfl (mark_c)) ?_; rintro _ _ ⟨rfl, rfl⟩; refine tl_x rfl (o_buildSlice1 Try.underlying28 sz5 z5 (by conv => lhs; whnf) rfl) ?_
              rintro _ _ ⟨b59, rfl, rfl⟩; refine tl_x rfl (o_apGr Try.underlying28 Try.underlying28 sz5 by5 z5 rfl (by decide) rfl rfl rfl (by repeat (first | with_reducible exact ct_here | apply ct_left)) rfl rfl (by omega) (by rw [bys_sn, ← mks_succ])) ?_; rintro _ _ ⟨a60, c60, rfl, hc60, rfl⟩; refine tla ?_; refine tl_nil ?_; refine q_block_n (q_then_n ?_); refine tc_reg ?_; refine tlm ?_; refine tv (by first | exact o_addI rfl rfl (by omega) | exact o_add rfl rfl) ?_; refine tla ?_; refine nq ?_; exact ⟨_, by omega, k + 1, _, _, by omega, rfl, rfl, rfl, rfl, rfl, rfl, rfl⟩
            · try simp only [lv1, lv2, lv3, lv4, lv5, lv6, Bool.not_true, Bool.not_false] at h
              refine tc_exit ?_; refine q_then_e (q_then_e (q_block_x (q_then_n ?_)))
              obtain rfl : k = 70 := by omega
              refine tc_reg ?_; refine tlm ?_; refine tlm ?_; refine tl_x rfl (o_buildSlice1 Try.underlying33 sz28 z28 (by conv => lhs; whnf) rfl) ?_; rintro _ _ ⟨b63, rfl, rfl⟩; refine tl_x rfl (o_apB Try.underlying33 Try.underlying33 sz28 by28 z28 rfl (by decide) (by decide) rfl rfl rfl (by repeat (first | with_reducible exact ct_here | apply ct_left)) rfl rfl (by omega) rfl) ?_; rintro _ _ ⟨a64, c64, rfl, hc64, rfl⟩; refine tla ?_; refine tl_nil ?_; refine q_block_n (q_then_n ?_); refine tc_eq (show _ = F * Sl 1 (.slice a m c) m vs * GP 0 (vs.take (i + 1)) (gs ++ [.slice a7 (ls[i].length + 70) c7]) ((ls.map List.length).take (i + 1)) * PM (i + 1) (vs.drop (i + 1)) ((ls.map List.length).drop (i + 1)) * Sl 1 (.slice a64 (i + 1) c64) (i + 1) (gs ++ [.slice a7 (ls[i].length + 70) c7]) by rw [List.take_succ_eq_append_getElem (show i < vs.length by omega), List.take_succ_eq_append_getElem hin, GP_snoc (by simp; omega) (by simp; omega)]; simp only [List.length_take, List.length_map, Nat.min_eq_left (Nat.le_of_lt hi), Nat.zero_add, List.getElem_map, hvi]; ac_rfl) ?_; refine tc_reg ?_; refine tlm ?_; refine tv (by first | exact o_addI rfl rfl (by omega) | exact o_add rfl rfl) ?_; refine tla ?_; refine nq ?_; exact ⟨_, by omega, i + 1, _, _, _, by omega, by simp [hp1], rfl, rfl, rfl, rfl, rfl⟩
        · try simp only [lv1, lv2, lv3, lv4, lv5, lv6, Bool.not_true, Bool.not_false] at h
          refine tc_exit ?_; refine q_then_e (q_then_e (q_block_x (q_then_n ?_))); refine tc_seq ?_; refine tc_seq ?_
          obtain rfl : i = ls.length := by omega
          refine tc_eq (show _ = F * Sl 1 (.slice a m c) m vs * GP 0 vs gs (ls.map List.length) * Sl 1 (.slice a5 ls.length c5) ls.length gs by rw [List.take_of_length_le (by omega), List.take_of_length_le (by simp), List.drop_of_length_le (by omega), List.drop_of_length_le (by simp)]; show _ * emp * _ = _; rw [star_emp]) ?_; refine tc_reg ?_; refine tla ?_; refine nq ?_; refine tc_block ?_; refine tc_loop (fun kk ρ BB => ∃ (i : Nat), (i ≤ ls.length) ∧ kk = ls.length - i ∧ ρ 9 = .int .i64 (i : Nat) ∧ ρ 0 = .slice a m c ∧ ρ 5 = .slice a5 ls.length c5 ∧ BB = F * Sl 1 (.slice a m c) m vs * GP 0 vs gs (ls.map List.length) * Sl 1 (.slice a5 ls.length c5) ls.length gs) (m := ls.length - (0)) ?_ ?_
          · exact ⟨0, by omega, rfl, rfl, rfl, rfl, rfl⟩
          · intro k ρ B hI
            obtain ⟨i, hp0, hkk5, hE9, hE0, hE5, rfl⟩ := hI
            refine tc_env (d := 9) hE9 ?_; refine tc_env (d := 0) hE0 ?_; refine tc_env (d := 5) hE5 ?_
            clear hE9 hE0 hE5
            refine tc_seq ?_; refine sr ?_; refine tlm ?_; refine tlm ?_; refine tv (o_len Try.underlying33 rfl) ?_; refine tv (o_lss rfl rfl) ?_; refine nq ?_; refine tc_cond rfl (fun h => ?_) (fun h => ?_)
            · have hi : i < ls.length := by simp at h; omega
              have hin : i < (ls.map List.length).length := by simpa using hi
              have hv1 : vs.length = (ls.map List.length).length := by simpa using hvl
              have hg1 : gs.length = (ls.map List.length).length := by simp; omega
              refine tc_have (fun _ _ h => GP_read (X := F * Sl 1 (.slice a m c) m vs) hv1 hg1 hin h.left) fun ⟨ai, ci, ag, cg, hvi, hgi, hr1, hr2⟩ => ?_
              simp only [List.getElem_map] at hvi hgi hr1 hr2
              have hlsi := hls _ (List.getElem_mem hi)
              have hbl1 : (bys (mks i ls[i].length)).length = ls[i].length := by rw [bys_length, mks_length]
              have hbl2 : (bys (mks i (ls[i].length + 70))).length = ls[i].length + 70 := by rw [bys_length, mks_length]
              refine tc_skip ?_; refine q_then_n ?_; refine tc_seq ?_; refine tc_block ?_; refine sr ?_; refine tla ?_; refine nq ?_; refine tc_block ?_; refine tc_loop (fun kk ρ BB => ∃ (k : Nat), (k ≤ ls[i].length + 70) ∧ kk = ls[i].length + 70 - k ∧ ρ 10 = .int .i64 (k : Nat) ∧ ρ 0 = .slice a m c ∧ ρ 5 = .slice a5 ls.length c5 ∧ ρ 9 = .int .i64 (i : Nat) ∧ BB = F * Sl 1 (.slice a m c) m vs * GP 0 vs gs (ls.map List.length) * Sl 1 (.slice a5 ls.length c5) ls.length gs) (m := ls[i].length + 70 - (0)) ?_ ?_
              · exact ⟨0, by omega, rfl, rfl, rfl, rfl, rfl, rfl⟩
              · intro k ρ B hI
                obtain ⟨k, hp0, hkk6, hE10, hE0, hE5, hE9, rfl⟩ := hI
                refine tc_env (d := 10) hE10 ?_; refine tc_env (d := 0) hE0 ?_; refine tc_env (d := 5) hE5 ?_; refine tc_env (d := 9) hE9 ?_
                clear hE10 hE0 hE5 hE9
                refine tc_seq ?_; refine sr ?_; refine tlm ?_; refine tlm ?_; refine tlm ?_; refine tv (o_ixP1 Try.underlying33 sz28 rfl rfl (by first | omega | (simp only [bys_length, ints_length, wds_length, bos_length, List.length_append, List.length_take, List.length_drop, List.length_singleton]; omega)) (by repeat (first | exact nn_some | with_reducible exact nn_sl (by decide) | exact nn_rs (by assumption) (fun _ => by first | omega | (simp only [bys_length, ints_length, wds_length, bos_length, List.length_append, List.length_take, List.length_drop, List.length_singleton]; omega)) | apply Nn.left))) ?_; refine tv (o_ldP p28 rfl (by repeat (first | assumption | with_reducible exact rs_sl | with_reducible exact rs_pt0 | exact rs_none | apply Rs.left)) (by first | assumption | exact bys_at (by omega) | exact ints_at (by omega) | exact wds_at (by omega) | exact bos_at (by omega) | rfl)) ?_; refine tv (o_len Try.underlying28 rfl) ?_; refine tv (o_lss rfl rfl) ?_; refine nq ?_; refine tc_cond rfl (fun h => ?_) (fun h => ?_)
                · have hk : k < ls[i].length + 70 := by simp at h; omega
                  have hk1 := mks_at (i := i) hk
                  refine tc_skip ?_; refine q_then_n ?_; refine tc_seq ?_; refine tc_block ?_; refine tc_seq ?_; refine tc_regq mo (by kernel_rfl) ?_; refine ql_v rfl (o_move (by conv => lhs; whnf)) ?_; refine ql_v rfl (o_move (by conv => lhs; whnf)) ?_; refine ql_v rfl (o_ixP1 Try.underlying33 sz28 rfl rfl (by first | omega | (simp only [bys_length, ints_length, wds_length, bos_length, List.length_append, List.length_take, List.length_drop, List.length_singleton]; omega)) (by repeat (first | exact nn_some | with_reducible exact nn_sl (by decide) | exact nn_rs (by assumption) (fun _ => by first | omega | (simp only [bys_length, ints_length, wds_length, bos_length, List.length_append, List.length_take, List.length_drop, List.length_singleton]; omega)) | apply Nn.left))) ?_; refine ql_v rfl (o_ldP p28 rfl (by repeat (first | assumption | with_reducible exact rs_sl | with_reducible exact rs_pt0 | exact rs_none | apply Rs.left)) (by first | assumption | exact bys_at (by omega) | exact ints_at (by omega) | exact wds_at (by omega) | exact bos_at (by omega) | rfl)) ?_; refine ql_v rfl (o_move (by conv => lhs; whnf)) ?_; refine ql_v rfl (o_ixP1 Try.underlying28 sz5 rfl rfl (by first | omega | (simp only [bys_length, ints_length, wds_length, bos_length, List.length_append, List.length_take, List.length_drop, List.length_singleton]; omega)) (by repeat (first | exact nn_some | with_reducible exact nn_sl (by decide) | exact nn_rs (by assumption) (fun _ => by first | omega | (simp only [bys_length, ints_length, wds_length, bos_length, List.length_append, List.length_take, List.length_drop, List.length_singleton]; omega)) | apply Nn.left))) ?_
                  refine ql_v rfl (o_ldP p5 rfl (by repeat (first | assumption | with_reducible exact rs_sl | with_reducible exact rs_pt0 | exact rs_none | apply Rs.left)) (by first | assumption | exact bys_at (by omega) | exact ints_at (by omega) | exact wds_at (by omega) | exact bos_at (by omega) | rfl)) ?_; refine ql_v rfl (o_move (by conv => lhs; whnf)) ?_; refine ql_v rfl (o_move (by conv => lhs; whnf)) ?_; refine ql_c rfl (fun w => exec_call bd86 rfl) (mark_c) ?_; refine ql_v rfl (o_nei rfl rfl) ?_; refine ql_v rfl (o_move (by conv => lhs; whnf)) ?_; refine ql_bool (d := 91) rfl (fun h => ?_) (fun h => ?_)
                  · exfalso; simp at h
                  · try simp only [lv1, lv2, lv3, lv4, lv5, lv6, Bool.not_true, Bool.not_false] at h
                    refine ql_v rfl (o_move (by conv => lhs; whnf)) ?_; refine ql_v rfl (o_move (by conv => lhs; whnf)) ?_; refine ql_v rfl (o_move (by conv => lhs; whnf)) ?_; refine ql_v rfl (o_ixP1 Try.underlying33 sz28 rfl rfl (by first | omega | (simp only [bys_length, ints_length, wds_length, bos_length, List.length_append, List.length_take, List.length_drop, List.length_singleton]; omega)) (by repeat (first | exact nn_some | with_reducible exact nn_sl (by decide) | exact nn_rs (by assumption) (fun _ => by first | omega | (simp only [bys_length, ints_length, wds_length, bos_length, List.length_append, List.length_take, List.length_drop, List.length_singleton]; omega)) | apply Nn.left))) ?_; refine ql_v rfl (o_ldP p28 rfl (by repeat (first | assumption | with_reducible exact rs_sl | with_reducible exact rs_pt0 | exact rs_none | apply Rs.left)) (by first | assumption | exact bys_at (by omega) | exact ints_at (by omega) | exact wds_at (by omega) | exact bos_at (by omega) | rfl)) ?_; refine ql_v rfl (o_len Try.underlying28 rfl) ?_; refine ql_v rfl (o_lss rfl rfl) ?_; refine ql_v rfl (o_move (by conv => lhs; whnf)) ?_; refine ql_bool (d := 99) rfl (fun h => ?_) (fun h => ?_)
                    · have hk2 : k < ls[i].length := by simp at h; omega
                      have hk3 := mks_at (i := i) hk2
                      refine ql_v rfl (o_move (by conv => lhs; whnf)) ?_; refine ql_v rfl (o_move (by conv => lhs; whnf)) ?_; refine ql_v rfl (o_ixP1 Try.underlying33 sz28 rfl rfl (by first | omega | (simp only [bys_length, ints_length, wds_length, bos_length, List.length_append, List.length_take, List.length_drop, List.length_singleton]; omega)) (by repeat (first | exact nn_some | with_reducible exact nn_sl (by decide) | exact nn_rs (by assumption) (fun _ => by first | omega | (simp only [bys_length, ints_length, wds_length, bos_length, List.length_append, List.length_take, List.length_drop, List.length_singleton]; omega)) | apply Nn.left))) ?_; refine ql_v rfl (o_ldP p28 rfl (by repeat (first | assumption | with_reducible exact rs_sl | with_reducible exact rs_pt0 | exact rs_none | apply Rs.left)) (by first | assumption | exact bys_at (by omega) | exact ints_at (by omega) | exact wds_at (by omega) | exact bos_at (by omega) | rfl)) ?_; refine ql_v rfl (o_move (by conv => lhs; whnf)) ?_; refine ql_v rfl (o_ixP1 Try.underlying28 sz5 rfl rfl (by first | omega | (simp only [bys_length, ints_length, wds_length, bos_length, List.length_append, List.length_take, List.length_drop, List.length_singleton]; omega)) (by repeat (first | exact nn_some | with_reducible exact nn_sl (by decide) | exact nn_rs (by assumption) (fun _ => by first | omega | (simp only [bys_length, ints_length, wds_length, bos_length, List.length_append, List.length_take, List.length_drop, List.length_singleton]; omega)) | apply Nn.left))) ?_
                      refine ql_v rfl (o_ldP p5 rfl (by repeat (first | assumption | with_reducible exact rs_sl | with_reducible exact rs_pt0 | exact rs_none | apply Rs.left)) (by first | assumption | exact bys_at (by omega) | exact ints_at (by omega) | exact wds_at (by omega) | exact bos_at (by omega) | rfl)) ?_; refine ql_v rfl (o_move (by conv => lhs; whnf)) ?_; refine ql_v rfl (o_move (by conv => lhs; whnf)) ?_; refine ql_c rfl (fun w => exec_call bd86 rfl) (mark_c) ?_; refine ql_v rfl (o_nei rfl rfl) ?_; refine ql_v rfl (o_pick_t rfl (by conv => lhs; whnf)) ?_; refine ql_v rfl (o_pick_f rfl (by conv => lhs; whnf)) ?_; refine ql_nil ?_; refine q_then_n ?_; refine tc_cond rfl (fun h => ?_) (fun h => ?_)
                      · exfalso; simp at h
                      · try simp only [lv1, lv2, lv3, lv4, lv5, lv6, Bool.not_true, Bool.not_false] at h
                        refine tc_skip ?_; refine q_block_n (q_then_n ?_); refine tc_reg ?_; refine tlm ?_; refine tv (by first | exact o_addI rfl rfl (by omega) | exact o_add rfl rfl) ?_; refine tla ?_; refine nq ?_; exact ⟨_, by omega, k + 1, by omega, rfl, rfl, rfl, rfl, rfl, rfl⟩
                    · try simp only [lv1, lv2, lv3, lv4, lv5, lv6, Bool.not_true, Bool.not_false] at h
                      refine ql_skip rfl ?_; refine ql_skip rfl ?_; refine ql_skip rfl ?_; refine ql_skip rfl ?_; refine ql_skip rfl ?_; refine ql_skip rfl ?_; refine ql_skip rfl ?_; refine ql_skip rfl ?_; refine ql_skip rfl ?_; refine ql_skip rfl ?_; refine ql_skip rfl ?_; refine ql_v rfl (o_pick_f rfl (by conv => lhs; whnf)) ?_; refine ql_v rfl (o_pick_f rfl (by conv => lhs; whnf)) ?_; refine ql_nil ?_; refine q_then_n ?_; refine tc_cond_f rfl ?_; refine tc_skip ?_; refine q_block_n (q_then_n ?_); refine tc_reg ?_; refine tlm ?_; refine tv (by first | exact o_addI rfl rfl (by omega) | exact o_add rfl rfl) ?_; refine tla ?_; refine nq ?_; exact ⟨_, by omega, k + 1, by omega, rfl, rfl, rfl, rfl, rfl, rfl⟩
                · try simp only [lv1, lv2, lv3, lv4, lv5, lv6, Bool.not_true, Bool.not_false] at h
                  refine tc_exit ?_; refine q_then_e (q_then_e (q_block_x (q_block_n (q_then_n ?_)))); refine tc_reg ?_; refine tlm ?_; refine tv (by first | exact o_addI rfl rfl (by omega) | exact o_add rfl rfl) ?_; refine tla ?_; refine nq ?_; exact ⟨_, by omega, i + 1, by omega, rfl, rfl, rfl, rfl, rfl⟩
            · try simp only [lv1, lv2, lv3, lv4, lv5, lv6, Bool.not_true, Bool.not_false] at h
              refine tc_exit ?_; refine q_then_e (q_then_e (q_block_x (q_then_n ?_))); refine sr ?_; refine tla ?_; refine nq ?_; refine tc_ret ?_; exact ⟨.bool true, F, res1 rfl rfl, Dr.sat (by repeat (first | with_reducible exact dr_refl | apply dr_keep | apply dr_drop)), rfl, rfl⟩
end Go.Vl

set_option linter.unusedVariables false
set_option linter.unusedSimpArgs false
namespace Go.Vl
open Go Go.Proofs
theorem parts_nil : Parts [] [] = emp := rfl
theorem ctS_out {s : DevS} {q : Nat} (h : ¬ q < s.ls.length) : ctS q s = [] := by
  unfold ctS
  have : s.ls.getD q ⟨[], 0⟩ = ⟨[], 0⟩ := by simp [List.getD, List.getElem?_eq_none (show s.ls.length ≤ q by omega)]
  rw [this]; rfl
/-- Rows that are read. -/
structure RwF (A : SP) (a : Option Addr) (vs : List Value) (ls : List (List Nat)) : Prop where
  len : vs.length = ls.length
  rd : Rs A a vs
  row : ∀ i (h : i < ls.length), ∃ b c, vs[i]? = some (.slice b ls[i].length c) ∧ Rs A b (bys ls[i])
theorem RwF.left {A X : SP} {a : Option Addr} {vs : List Value} {ls : List (List Nat)} (h : RwF A a vs ls) : RwF (A * X) a vs ls := ⟨h.len, h.rd.left, fun i hi => let ⟨b, c, e, hr⟩ := h.row i hi; ⟨b, c, e, hr.left⟩⟩
/-- What a list of owned rows reads. -/
theorem rwF_parts {F : SP} {a : Option Addr} {m c : Nat} {vs : List Value} {ls : List (List Nat)} {g : Gh} {w : World} (h : sat g w (F * Parts vs ls * Sl 1 (.slice a m c) m vs)) : RwF (F * Parts vs ls * Sl 1 (.slice a m c) m vs) a vs ls := by
  have hl := parts_len h.left
  refine ⟨hl, rs_sl, fun i hi => ?_⟩
  obtain ⟨R, e1, _⟩ := parts_row hl hi
  have e : F * Parts vs ls * Sl 1 (.slice a m c) m vs = F * R * Sl 1 (.slice a m c) m vs * Sl 1 (vs[i]'(by omega)) ls[i].length (bys ls[i]) := by rw [e1, star_swap]
  obtain ⟨b, cb, e2, _, _, e5⟩ := sl_have' e h
  exact ⟨b, cb, by rw [List.getElem?_eq_getElem (by omega), e2], rs_rd e5⟩
attribute [local irreducible] Sl pt ro imgS Parts
theorem EqRows_c {A : SP} {a1 a2 : Option Addr} {c1 c2 n m : Nat} {vs ws : List Value} {ls ms : List (List Nat)} (h1 : RwF A a1 vs ls) (h2 : RwF A a2 ws ms) (hn : ls.length = n) (hm : ms.length = m) (hnl : n ≤ 4611686018427387904) (hml : m ≤ 4611686018427387904) (hl1 : ∀ l ∈ ls, l.length ≤ 4611686018427387904) (hl2 : ∀ l ∈ ms, l.length ≤ 4611686018427387904) :
    Fn Try.prog 81 #[.slice a1 n c1, .slice a2 m c2] (A) (fun v B => v = .bool (decide (ls = ms)) ∧ A = B) := by
  refine fn_enterW (args := [.slice a1 n c1, .slice a2 m c2]) Try.func81 rfl Try.ntmps81 (by simp) ?_; refine sr ?_; refine tla ?_; refine nq ?_; refine tc_seq ?_; refine sr ?_; refine tlm ?_; refine tv (o_len Try.underlying33 rfl) ?_; refine tlm ?_; refine tv (o_len Try.underlying33 rfl) ?_; refine tv (o_nei rfl rfl) ?_; refine nq ?_; refine tc_cond rfl (fun h => ?_) (fun h => ?_)
  · try simp only [lv1, lv2, lv3, lv4, lv5, lv6, Bool.not_true, Bool.not_false] at h
    refine sr ?_; refine tla ?_; refine nq ?_; refine tc_ret ?_; refine q_then_r ?_; refine ⟨.bool false, _, res1 rfl rfl, ?_, (by rw [decide_eq_false]; intro e; subst e; omega), rfl⟩; exact Dr.sat (by repeat (first | with_reducible exact dr_refl | apply dr_keep | apply dr_drop))
  · try simp only [lv1, lv2, lv3, lv4, lv5, lv6, Bool.not_true, Bool.not_false] at h
    refine tc_skip ?_; refine q_then_n ?_; refine tc_seq ?_; refine sr ?_; refine tla ?_; refine nq ?_; refine tc_block ?_; refine tc_loop (fun kk ρ BB => ∃ (i : Nat), (i ≤ n) ∧ (ls.take i = ms.take i) ∧ kk = n - i ∧ ρ 5 = .int .i64 (i : Nat) ∧ ρ 0 = .slice a1 n c1 ∧ ρ 1 = .slice a2 m c2 ∧ BB = A) (m := n - (0)) ?_ ?_
    · exact ⟨0, by omega, rfl, rfl, rfl, rfl, rfl, rfl⟩
    · intro k ρ B hI
      obtain ⟨i, hp0, hp1, hkk1, hE5, hE0, hE1, hBA⟩ := hI
      obtain rfl := hBA.symm
      refine tc_env (d := 5) hE5 ?_; refine tc_env (d := 0) hE0 ?_; refine tc_env (d := 1) hE1 ?_
      clear hE5 hE0 hE1
      refine tc_seq ?_; refine sr ?_; refine tlm ?_; refine tlm ?_; refine tv (o_len Try.underlying33 rfl) ?_; refine tv (o_lss rfl rfl) ?_; refine nq ?_; refine tc_cond rfl (fun h => ?_) (fun h => ?_)
      · have hi : i < ls.length := by simp at h; omega
        have hj : i < ms.length := by omega
        obtain ⟨b1, k1, g1, r1⟩ := h1.row i hi
        obtain ⟨b2, k2, g2, r2⟩ := h2.row i hj
        have q1 := hl1 _ (List.getElem_mem hi)
        have q2 := hl2 _ (List.getElem_mem hj)
        have v1 := h1.len
        have v2 := h2.len
        refine tc_skip ?_; refine q_then_n ?_; refine tc_seq ?_; refine tc_block ?_; refine tc_seq ?_; refine tc_regq mo (by kernel_rfl) ?_; refine ql_v rfl (o_move (by conv => lhs; whnf)) ?_; refine ql_v rfl (o_move (by conv => lhs; whnf)) ?_; refine ql_v rfl (o_ixP1 Try.underlying33 sz28 rfl rfl (by omega) (nn_rs h1.rd (fun _ => by omega))) ?_; refine ql_v rfl (o_ldP p28 rfl h1.rd g1) ?_; refine ql_v rfl (o_move (by conv => lhs; whnf)) ?_; refine ql_v rfl (o_move (by conv => lhs; whnf)) ?_; refine ql_v rfl (o_ixP1 Try.underlying33 sz28 rfl rfl (by omega) (nn_rs h2.rd (fun _ => by omega))) ?_; refine ql_v rfl (o_ldP p28 rfl h2.rd g2) ?_; refine ql_c rfl (fun w => exec_call bd22 rfl) (EqBytes_c (xs := ls[i]) (ys := ms[i]) (h1 := r1) (h2 := r2)) ?_; refine ql_v rfl (o_not rfl) ?_; refine ql_nil ?_; refine q_then_n ?_; refine tc_cond rfl (fun h => ?_) (fun h => ?_)
        · try simp only [lv1, lv2, lv3, lv4, lv5, lv6, Bool.not_true, Bool.not_false] at h
          refine sr ?_; refine tla ?_; refine nq ?_; refine tc_ret ?_; refine q_block_r (q_then_r (q_then_r (q_block_r (q_then_r ?_)))); refine ⟨.bool false, _, res1 rfl rfl, ?_, (by rw [decide_eq_false]; intro e; subst e; simp at h), rfl⟩; exact Dr.sat (by repeat (first | with_reducible exact dr_refl | apply dr_keep | apply dr_drop))
        · have heq : ls[i] = ms[i] := by simpa using h
          refine tc_skip ?_; refine q_block_n (q_then_n ?_); refine tc_reg ?_; refine tlm ?_; refine tv (by first | exact o_addI rfl rfl (by omega) | exact o_add rfl rfl) ?_; refine tla ?_; refine nq ?_; exact ⟨_, by omega, i + 1, by omega, by rw [List.take_succ_eq_append_getElem hi, List.take_succ_eq_append_getElem hj, hp1, heq], rfl, rfl, rfl, rfl, rfl⟩
      · try simp only [lv1, lv2, lv3, lv4, lv5, lv6, Bool.not_true, Bool.not_false] at h
        refine tc_exit ?_; refine q_then_e (q_then_e (q_block_x (q_then_n ?_))); refine sr ?_; refine tla ?_; refine nq ?_; refine tc_ret ?_; refine ⟨.bool true, _, res1 rfl rfl, ?_, (by rw [decide_eq_true]; have e : i = n := (by simp at h; omega); rw [List.take_of_length_le (by omega), List.take_of_length_le (by omega)] at hp1; exact hp1), rfl⟩; exact Dr.sat (by repeat (first | with_reducible exact dr_refl | apply dr_keep | apply dr_drop))
end Go.Vl

set_option linter.unusedVariables false
set_option linter.unusedSimpArgs false
namespace Go.Vl
open Go Go.Proofs
def sbys (s : ByteArray) : List Nat := s.data.toList.map fun b => b.toNat
attribute [local irreducible] crk crL crc Sl pt ro
end Go.Vl

set_option linter.unusedVariables false
set_option linter.unusedSimpArgs false
namespace Go.Vl
open Go Go.Proofs
def planL (n : Int) : List Int := [n, 128, 32768, 32896, (n - 32896) / 256]
def planT (n : Int) : List Int × Int := if 36992 ≤ n ∧ n ≤ 4194304 ∧ n % 64 = 0 then (planL n, 0) else ([0, 0, 0, 0, 0], 80)
attribute [local irreducible] crk crL crc Sl pt ro planT
end Go.Vl

set_option linter.unusedVariables false
set_option linter.unusedSimpArgs false
namespace Go.Vl
open Go Go.Proofs
def magicB : List Nat := [86, 69, 76, 76, 85, 77, 48, 49]
def mbs (ns : List Nat) : List Nat := magicB ++ ns.flatMap (le 8)
def sbB (ns : List Nat) : List Nat := mbs ns ++ le 8 (crc 0 (mbs ns))
attribute [local irreducible] crk crL crc Sl pt ro planT mbs
end Go.Vl

set_option linter.unusedVariables false
set_option linter.unusedSimpArgs false
namespace Go.Vl
open Go Go.Proofs
def lineT (q0 q1 q2 q3 q4 : Int) : List Nat × Int := if planT q0 = ([q0, q1, q2, q3, q4], 0) then (sbB [q0.toNat, 128, 32768, 32896, (q0.toNat - 32896) / 256, 0], 0) else ([], 100)
end Go.Vl

set_option linter.unusedVariables false
set_option linter.unusedSimpArgs false
namespace Go.Vl
open Go Go.Proofs
def stE (s : DevS) : Int := if s.off = true then 5 else 0
attribute [local irreducible] crk crL crc Sl pt ro mbs sbB planT Dev
end Go.Vl

set_option linter.unusedVariables false
set_option linter.unusedSimpArgs false
namespace Go.Vl.Rg
open Go
/-- Of what make the frame is: a function's, or a round's. -/
class Rm where
  r : Option Nat
def Fc (μ : Rm) : Fence := { Fence.wide with round := μ.r }
/-- The blocks of the deferred calls of loops that were begun: the frame keeps them behind its last slot. -/
def blk : Value → Nat
  | .int _ i => i.toNat
  | _ => 0
def mks : Value → List Nat
  | .tuple vs => vs.toList.map blk
  | _ => []
def mkv (rs : List Nat) : Value := .tuple (rs.map fun r : Nat => Value.int .i64 (r : Int)).toArray
def mark (r : Nat) : Deferred := { target := .collected r, args := #[] }
def mkO : Obj := .deferred (some [])
structure Agr (n : Nat) (ρ : Env) (a : Act) : Prop where
  df : a.defers = (mks (ρ n)).map mark
  sz : a.tmps.size = n
  ev : ∀ t, t < n → a.tmps.getD t undef = ρ t
def put (n : Nat) (ρ : Env) : Option Tmp → Value → Env
  | some d, v => bif Nat.blt d n then upd ρ d v else ρ
  | none, _ => ρ
theorem Agr.plain {n : Nat} {ρ : Env} {a : Act} (h : Agr n ρ a) : Vl.Agr n ρ { a with defers := [] } := ⟨rfl, h.sz, h.ev⟩
theorem Agr.eval {n : Nat} {ρ : Env} {a : Act} (h : Agr n ρ a) : a.eval = Vl.ev n ρ := by
  rw [← h.plain.eval]; rfl
theorem Agr.put {n : Nat} {ρ : Env} {a : Act} (h : Agr n ρ a) (d : Option Tmp) (v : Value) : Agr n (Rg.put n ρ d v) (a.put d v) := by
  cases d with
  | none => exact h
  | some d =>
    simp only [Rg.put]
    cases hb : Nat.blt d n with
    | true =>
      have hlt := Nat.blt_eq.mp hb
      have := h.plain.put (some d) v
      refine ⟨?_, this.sz, this.ev⟩
      have hn : Nat.beq n d = false := by
        cases hb : Nat.beq n d with
        | false => rfl
        | true => have := Nat.eq_of_beq_eq_true hb; omega
      simp only [Act.put, cond_true, upd, hn, cond_false]
      exact h.df
    | false =>
      have hge : n ≤ d := by
        rcases Nat.lt_or_ge d n with hlt | hge
        · rw [Nat.blt_eq.mpr hlt] at hb; cases hb
        · exact hge
      refine ⟨h.df, by simp [Act.put, h.sz], fun t ht => ?_⟩
      simp only [Act.put, cond_false]
      rw [← h.ev t ht, Array.getD_eq_getD_getElem?, Array.getElem?_setIfInBounds, if_neg (by omega), Array.getD_eq_getD_getElem?]
def lift (g : Gh) (n : Nat) (Q : Post) : Exit → Act → World → Prop := fun e a w => okE e = true ∧ ∃ ρ A, Agr n ρ a ∧ sat g w A ∧ Q e ρ A
def TC [μ : Rm] (P : Program) (n : Nat) (c : Code) (Q : Post) (ρ : Env) (A : SP) : Prop :=
  ∀ g a w, Agr n ρ a → sat g w A → c.wpIn (Fc μ) 0 P (lift g n Q) a w
def TL [μ : Rm] (P : Program) (n : Nat) (ops : Array Oper) (Q : Post) (l : List Oper) (ρ : Env) (A : SP) : Prop :=
  ∀ g a w, Agr n ρ a → sat g w A → wpListIn (Fc μ) 0 P ops (lift g n Q) l a w
/-- A call of yield: what it hands back, and what holds of memory behind it. -/
def Yd (P : Program) (l : Nat) (args : Array Value) (A : SP) (Q : Value → SP → Prop) : Prop :=
  ∀ g w, sat g w A → ∃ f tmps assign body, (Instr.yield l args).run P w = .ok (.round l f tmps assign body) w ∧
    RoundIn Fence.wide 0 P l f tmps assign body w fun e w' => ∃ v B, e = .returned v ∧ Q v B ∧ sat g w' B
theorem Yd.mono {P : Program} {l : Nat} {args : Array Value} {A : SP} {Q Q' : Value → SP → Prop} (h : Yd P l args A Q) (k : ∀ v B, Q v B → Q' v B) : Yd P l args A Q' := fun g w hs =>
  let ⟨f, t, a, b, hy, hr⟩ := h g w hs
  ⟨f, t, a, b, hy, hr.mono fun _ _ ⟨v, B, e, q, s⟩ => ⟨v, B, e, k v B q, s⟩⟩
theorem Yd.pre {P : Program} {l : Nat} {args : Array Value} {A A' : SP} {Q : Value → SP → Prop} (h : Yd P l args A Q) (k : ∀ g w, sat g w A' → sat g w A) : Yd P l args A' Q := fun g w hs => h g w (k g w hs)
section
variable {μ : Rm} {P : Program} {n : Nat} {Q : Post} {ρ : Env} {A : SP}
theorem tc_imp {c : Code} {Q' : Post} (h : TC P n c Q ρ A) (k : ∀ e ρ A, Q e ρ A → Q' e ρ A) : TC P n c Q' ρ A :=
  fun g a w ha hs => wpIn_mono (h g a w ha hs) fun _ _ _ ⟨o, ρ, A, x, y, z⟩ => ⟨o, ρ, A, x, y, k _ _ _ z⟩
theorem tc_pre {c : Code} {A' : SP} (k : ∀ g w, sat g w A → sat g w A') (h : TC P n c Q ρ A') : TC P n c Q ρ A :=
  fun g a w ha hs => h g a w ha (k g w hs)
theorem tc_eq {c : Code} {A' : SP} (k : A = A') (h : TC P n c Q ρ A') : TC P n c Q ρ A := k ▸ h
theorem tc_env {c : Code} {d : Nat} {v : Value} (h : ρ d = v) (k : TC P n c Q (upd ρ d v) A) : TC P n c Q ρ A := by
  rw [← env_set h] at k; exact k
theorem tc_have {c : Code} {p : Prop} (k : ∀ g w, sat g w A → p) (h : p → TC P n c Q ρ A) : TC P n c Q ρ A :=
  fun g a w ha hs => h (k g w hs) g a w ha hs
theorem tc_seq {x y : Code} (h : TC P n x (thenQ (TC P n y Q) Q) ρ A) : TC P n (x.seq y) Q ρ A := fun g a w ha hs =>
  wpIn_seq (wpIn_mono (h g a w ha hs) fun e a' w' ⟨hok, ρ', A', ha', hs', hq⟩ => by
    cases e with
    | normal => exact hq g a' w' ha' hs'
    | _ => exact ⟨hok, ρ', A', ha', hs', hq⟩)
theorem tc_skip (h : Q .normal ρ A) : TC P n .skip Q ρ A := fun g a w ha hs => wpIn_skip ⟨rfl, ρ, A, ha, hs, h⟩
theorem tc_ret (h : Q .ret ρ A) : TC P n .ret Q ρ A := fun g a w ha hs => wpIn_ret ⟨rfl, ρ, A, ha, hs, h⟩
theorem tc_exit {id : Nat} (h : Q (.exit id) ρ A) : TC P n (.exit id) Q ρ A := fun g a w ha hs => wpIn_exit ⟨rfl, ρ, A, ha, hs, h⟩
theorem tc_block {id : Nat} {c : Code} (h : TC P n c (blockQ id Q) ρ A) : TC P n (.block id c) Q ρ A := fun g a w ha hs =>
  wpIn_block (wpIn_mono (h g a w ha hs) fun e a' w' ⟨hok, ρ', A', ha', hs', hq⟩ => by
    cases e with
    | exit k =>
      simp only [Exit.inBlock]
      by_cases hk : k = id
      · subst hk
        simp only [blockQ, Nat.beq_refl, cond_true] at hq
        rw [if_pos rfl]; exact ⟨rfl, ρ', A', ha', hs', hq⟩
      · have : Nat.beq k id = false := by
          cases hb : Nat.beq k id with
          | false => rfl
          | true => exact absurd (Nat.eq_of_beq_eq_true hb) hk
        simp only [blockQ, this, cond_false] at hq
        rw [if_neg hk]; exact ⟨rfl, ρ', A', ha', hs', hq⟩
    | _ => exact ⟨hok, ρ', A', ha', hs', hq⟩)
theorem tc_cond {c : Operand} {x y : Code} {t : Bool} (hc : ev n ρ c = .bool t) (h1 : t = true → TC P n x Q ρ A) (h2 : t = false → TC P n y Q ρ A) : TC P n (.cond c x y) Q ρ A := fun g a w ha hs => by
  refine wpIn_cond (t := t) (by rw [ha.eval]; exact hc) ?_
  cases t with
  | true => exact h1 rfl g a w ha hs
  | false => exact h2 rfl g a w ha hs
theorem tc_cond_t {c : Operand} {x y : Code} (hc : ev n ρ c = .bool true) (h : TC P n x Q ρ A) : TC P n (.cond c x y) Q ρ A := tc_cond hc (fun _ => h) (fun e => by cases e)
theorem tc_cond_f {c : Operand} {x y : Code} (hc : ev n ρ c = .bool false) (h : TC P n y Q ρ A) : TC P n (.cond c x y) Q ρ A := tc_cond hc (fun e => by cases e) (fun _ => h)
theorem tc_cut {c : Code} (M : Env → SP → Prop) (h : TC P n c (fun e ρ' A' => match e with | .normal => M ρ' A' | e => Q e ρ' A') ρ A) (k : ∀ ρ' A', M ρ' A' → Q .normal ρ' A') : TC P n c Q ρ A :=
  tc_imp h fun e ρ' A' hq => by
    cases e with
    | normal => exact k _ _ hq
    | _ => exact hq
theorem tc_loop {c : Code} (I : Nat → Env → SP → Prop) {m : Nat} (h0 : I m ρ A)
    (round : ∀ k ρ A, I k ρ A → TC P n c (thenQ (fun ρ' A' => ∃ k', k' < k ∧ I k' ρ' A') Q) ρ A) : TC P n (.loop c) Q ρ A := fun g a w ha hs b kk cs hro hb hr => by
  have key : ∀ k ρ A, I k ρ A → ∀ a w, Agr n ρ a → sat g w A → ∃ e a' w', lift g n Q e a' w' ∧ ArrivesIn (Machine.fenced P (Fc μ)) P (lone (b.atR a (.code c :: .inLoop c :: kk)) cs w) b kk cs e a' w' := by
    intro k
    induction k using Nat.strongRecOn with
    | _ k ih =>
      intro ρ A hI a w ha hs
      obtain ⟨e, a₁, w₁, ⟨hok, ρ₁, A₁, ha₁, hs₁, hq⟩, harr⟩ := round k ρ A hI g a w ha hs b (.inLoop c :: kk) cs hro hb hr
      cases e with
      | normal =>
        obtain ⟨k', hlt, hI'⟩ := hq
        obtain ⟨e₂, a₂, w₂, hq₂, harr₂⟩ := ih k' hlt ρ₁ A₁ hI' a₁ w₁ ha₁ hs₁
        exact ⟨e₂, a₂, w₂, hq₂, .of_steps (StepsIn.trans harr (.one (fenced_calm hb hr rfl) stepR_inLoop)) harr₂⟩
      | exit id => exact ⟨_, a₁, w₁, ⟨hok, ρ₁, A₁, ha₁, hs₁, hq⟩, .pass (x := .inLoop c) rfl (fun _ _ => .inl (by simp)) harr⟩
      | goto l => exact ⟨_, a₁, w₁, ⟨hok, ρ₁, A₁, ha₁, hs₁, hq⟩, .pass (x := .inLoop c) rfl (fun _ _ => .inl (by simp)) harr⟩
      | ret => exact ⟨_, a₁, w₁, ⟨hok, ρ₁, A₁, ha₁, hs₁, hq⟩, .pass (x := .inLoop c) rfl (fun _ _ => .inl (by simp)) harr⟩
      | panic ch => exact ⟨_, a₁, w₁, ⟨hok, ρ₁, A₁, ha₁, hs₁, hq⟩, .pass (x := .inLoop c) rfl (fun _ _ => .inl (by simp)) harr⟩
      | outgrown => exact ⟨_, a₁, w₁, ⟨hok, ρ₁, A₁, ha₁, hs₁, hq⟩, .pass (x := .inLoop c) rfl (fun _ _ => .inl (by simp)) harr⟩
  obtain ⟨e, a', w', hq, harr⟩ := key m ρ A h0 a w ha hs
  exact ⟨e, a', w', hq, .of_steps (.one (fenced_calm hb hr rfl) stepR_loop) harr⟩
/-! ### Operations -/
theorem want_eq {ops : Array Oper} {a : Act} {o : Oper} (ha : Agr n ρ a) : Region.wanted o (yielded ops a.tmps) = wantE n ops ρ o := by
  have := Vl.want_eq (ops := ops) (o := o) ha.plain
  exact this
theorem sem_eq {ro : Option Nat} {e : Operand → Value} {o : Oper} {w w' : World} {x : Next} (h : (execOp e o).run P w = .ok x w') (hd : ∀ d, x ≠ .defer d) : (Oper.semAt ro e o).run P w = .ok x w' := by
  cases ro with
  | none => exact h
  | some l =>
    by_cases hc : ∃ c, o.op = .defer c
    · exfalso
      obtain ⟨c, hc⟩ := hc
      unfold execOp at h
      rw [hc] at h
      simp only [] at h
      rw [Sem.run_bind] at h
      cases hr : (resolve e c o.type).run P w with
      | ok d w1 => rw [hr] at h; simp [Result.andThen, pure, Sem.run] at h; exact hd d h.1.symm
      | halt x w1 => rw [hr] at h; simp [Result.andThen] at h
    · rw [Oper.semAt_eq _ _ _ fun c e => hc ⟨c, e⟩]; exact h
section
variable {ops : Array Oper} {o : Oper} {rest : List Oper}
theorem tl_nil (h : Q .normal ρ A) : TL P n ops Q [] ρ A := fun g a w ha hs => wpListIn_nil ⟨rfl, ρ, A, ha, hs, h⟩
theorem tl_eq {A' : SP} {l : List Oper} (k : A = A') (h : TL P n ops Q l ρ A') : TL P n ops Q l ρ A := k ▸ h
theorem tl_pre {A' : SP} {l : List Oper} (k : ∀ g w, sat g w A → sat g w A') (h : TL P n ops Q l ρ A') : TL P n ops Q l ρ A := fun g a w ha hs => h g a w ha (k g w hs)
theorem tl_env {l : List Oper} {d : Nat} {v : Value} (h : ρ d = v) (k : TL P n ops Q l (upd ρ d v) A) : TL P n ops Q l ρ A := by
  rw [← env_set h] at k; exact k
theorem tl_have {l : List Oper} {p : Prop} (k : ∀ g w, sat g w A → p) (h : p → TL P n ops Q l ρ A) : TL P n ops Q l ρ A := fun g a w ha hs => h (k g w hs) g a w ha hs
theorem tl_bool {l : List Oper} {d : Nat} {b : Bool} (hv : ρ d = .bool b) (ht : b = true → TL P n ops Q l (upd ρ d (.bool true)) A) (hf : b = false → TL P n ops Q l (upd ρ d (.bool false)) A) : TL P n ops Q l ρ A := by
  cases b with
  | true => exact tl_env hv (ht rfl)
  | false => exact tl_env hv (hf rfl)
theorem tl_skip (hw : wantE n ops ρ o = false) (k : TL P n ops Q rest (put n ρ o.dst undef) A) : TL P n ops Q (o :: rest) ρ A := fun g a w ha hs => by
  unfold wpListIn
  rw [want_eq ha, hw]
  exact ⟨fun _ _ => trivial, k g _ w (ha.put _ _) hs⟩
theorem tl_v {v : Value} (hw : wantE n ops ρ o = true) (h : OpV P n ρ A o v) (k : TL P n ops Q rest (put n ρ o.dst v) A) : TL P n ops Q (o :: rest) ρ A := fun g a w ha hs => by
  unfold wpListIn
  rw [want_eq ha, hw, if_pos rfl]
  refine ⟨fun _ _ => trivial, ?_⟩
  rw [ha.eval, sem_eq (h g w hs) (by simp)]
  exact k g _ w (ha.put _ _) hs
theorem tlm {d : Nat} {ty : TypeId} {pos : String} {after : Array Edge} {gd : Option (Nat × Bool)} {x : Operand} {v : Value} (k : TL P n ops Q rest (put n ρ (some d) v) A) (h : ev n ρ x = v := by conv => lhs; whnf) (hw : wantE n ops ρ ⟨some d, .move x, ty, pos, after, gd⟩ = true := by rfl) : TL P n ops Q (⟨some d, .move x, ty, pos, after, gd⟩ :: rest) ρ A := tl_v hw (o_move h) k
theorem tla {d : Nat} {ty : TypeId} {pos : String} {after : Array Edge} {gd : Option (Nat × Bool)} {x : Operand} {v : Value} (k : TL P n ops Q rest (put n ρ (some d) v) A) (h : ev n ρ x = v := by conv => lhs; whnf) (hw : wantE n ops ρ ⟨some d, .assign x, ty, pos, after, gd⟩ = true := by rfl) : TL P n ops Q (⟨some d, .assign x, ty, pos, after, gd⟩ :: rest) ρ A := tl_v hw (o_assign h) k
theorem tl_x {R : Value → SP → Prop} (hw : wantE n ops ρ o = true) (h : OpX P n ρ A o R) (k : ∀ v B, R v B → TL P n ops Q rest (put n ρ o.dst v) B) : TL P n ops Q (o :: rest) ρ A := fun g a w ha hs => by
  unfold wpListIn
  rw [want_eq ha, hw, if_pos rfl]
  refine ⟨fun _ _ => trivial, ?_⟩
  obtain ⟨v, w', B, hr, hb, hR⟩ := h g w hs
  rw [ha.eval, sem_eq hr (by simp)]
  exact k v B hR g _ w' (ha.put _ _) hb
theorem tl_u {B : SP} (hw : wantE n ops ρ o = true) (h : OpU P n ρ A o B) (k : TL P n ops Q rest (put n ρ o.dst undef) B) : TL P n ops Q (o :: rest) ρ A := fun g a w ha hs => by
  unfold wpListIn
  rw [want_eq ha, hw, if_pos rfl]
  refine ⟨fun _ _ => trivial, ?_⟩
  obtain ⟨w', hr, hb⟩ := h g w hs
  rw [ha.eval, sem_eq hr (by simp)]
  exact k g _ w' (ha.put _ _) hb
theorem tl_c {R : Value → SP → Prop} (hw : wantE n ops ρ o = true) (h : OpC P n ρ A o R) (k : ∀ v B, R v B → TL P n ops Q rest (put n ρ o.dst v) B) : TL P n ops Q (o :: rest) ρ A := fun g a w ha hs => by
  unfold wpListIn
  rw [want_eq ha, hw, if_pos rfl]
  refine ⟨fun _ _ => trivial, ?_⟩
  obtain ⟨f, args, w', hr, hc⟩ := h g w hs
  rw [ha.eval, sem_eq hr (by simp)]
  refine ⟨fun h => (by cases h), ?_⟩
  have hc' : CallsIn Fence.wide (0 - 1) P f args w' fun e w'' => ∃ v B, e = .returned v ∧ R v B ∧ sat g w'' B := callsIn_wide.2 hc
  refine CallsIn.mono (show CallsIn (Fc μ) (0 - 1) P f args w' _ from hc') fun e w'' ⟨v, B, he, hR, hb⟩ => ?_
  subst he
  exact k v B hR g _ w'' (ha.put _ _) hb
theorem tc_reg {id : Nat} {l : List Oper} (h : TL P n l.toArray Q l ρ A) : TC P n (.region id l.toArray false) Q ρ A := fun g a w ha hs => wpIn_region_lit (h g a w ha hs)
end
end
/-! ## Functions -/
/-- The marks' blocks. -/
def Mk : List Nat → SP
  | [] => emp
  | r :: rs => Mk rs * pt r mkO
def retW (P : Program) (n : Nat) (fn : Func) (Q : Value → SP → Prop) : Post
  | .ret, ρ, A | .normal, ρ, A => ∃ rs B, mks (ρ n) = rs ∧ (∀ g w, sat g w A → sat g w (B * Mk rs)) ∧ ∃ v A', Res P n fn ρ B v ∧ (∀ g w, sat g w B → sat g w A') ∧ Q v A'
  | _, _, _ => False
theorem leaves_mk {P : Program} {fn : Func} {tmps : Array Value} {R : Ending → World → Prop} {g : Gh} {B : SP} : ∀ (rs : List Nat) (w : World), sat g w (B * Mk rs) →
    (∀ w, sat g w B → ∃ v, (results fn tmps).run P w = .ok v w ∧ R (.returned v) w) → LeavesInM Fence.wide 0 P fn tmps R (rs.map mark) .returning w
  | [], w, hs, h => h w hs.left
  | r :: rs, w, hs, h => by
    have hs' : sat g w (B * Mk rs * pt r mkO) := by rw [star_assoc]; exact hs
    have hr : w.heap[r]? = some mkO := has_here g w hs'
    refine ⟨by simp, .inl ⟨r, _, rfl, run_takeDeferred hr, leaves_mk rs _ ?_ h⟩⟩
    have hu : Upd (B * Mk rs * pt r mkO) r mkO (.deferred none) (B * Mk rs * pt r (.deferred none)) := upd_here
    have := hu.sat hs' (w' := w.putObj r (.deferred none)) (fun k => by
      by_cases hk : k = r
      · subst hk; rw [if_pos rfl]; exact World.putObj_heap_same (Array.getElem?_eq_some_iff.1 hr).1
      · rw [if_neg hk]; exact World.putObj_heap_other hk) rfl rfl rfl
    exact this.left
instance plainM : Rm := ⟨none⟩
theorem fn_enterW {P : Program} {f : FuncId} {fn : Func} {c : Code} {args : List Value} {A : SP} {Q : Value → SP → Prop} {n : Nat} (hf : P.funcs[f]? = some fn) (hb : fn.body = some c)
    (hn : fn.ntmps = n) (hle : args.length ≤ n) (h : @TC ⟨none⟩ P n c (retW P n fn Q) (argEnv und 0 args) A) : Fn P f args.toArray A Q := fun g w hs => by
  refine callsIn_wide.1 (callsIn_of_wp_marks (n := 0) hf hb trivial (wpIn_mono (h g _ w ?_ hs) ?_))
  · have hsz : (args.toArray ++ Array.replicate (fn.ntmps - args.toArray.size) undef).size = n := by simp; omega
    have key : ∀ (l : List Value) (ρ : Env) (k t : Nat), argEnv ρ k l t = if k ≤ t ∧ t < k + l.length then l.getD (t - k) undef else ρ t := by
      intro l
      induction l with
      | nil => intro ρ k t; simp only [argEnv, List.length_nil]; rw [if_neg (by omega)]
      | cons v l ih =>
        intro ρ k t
        simp only [argEnv, ih, List.length_cons]
        by_cases h1 : k + 1 ≤ t ∧ t < k + 1 + l.length
        · rw [if_pos h1, if_pos (by omega)]
          have : t - k = (t - (k + 1)) + 1 := by omega
          rw [this]; simp
        · rw [if_neg h1]
          by_cases h2 : t = k
          · subst h2
            rw [if_pos (by omega)]
            simp [upd]
          · rw [if_neg (by omega)]
            have : Nat.beq t k = false := by
              cases hb : Nat.beq t k with
              | false => rfl
              | true => exact absurd (Nat.eq_of_beq_eq_true hb) h2
            simp [upd, this]
    refine ⟨?_, hsz, fun t ht => ?_⟩
    · rw [key, if_neg (by omega)]; rfl
    · rw [key]
      rw [Array.getD_eq_getD_getElem?, Array.getElem?_append]
      by_cases h1 : t < args.length
      · rw [if_pos (by simpa using h1), if_pos (by omega)]
        simp
      · rw [if_neg (by simpa using h1), if_neg (by omega)]
        simp only [List.size_toArray] at *
        rw [Array.getElem?_replicate]
        split <;> simp [und]
  · rintro e a' w' ⟨_, ρ', A', ha', hs', hq⟩
    have fin : ∀ a' w', Agr n ρ' a' → sat g w' A' → retW P n fn Q .ret ρ' A' → LeavesInM Fence.wide 0 P fn a'.tmps (fun e w' => ∃ v B, e = .returned v ∧ Q v B ∧ sat g w' B) a'.defers .returning w' := by
      intro a' w' ha' hs' hq
      obtain ⟨rs, B, hm, hB, v, A2, hr, hi, hQ⟩ := hq
      rw [ha'.df, hm]
      exact leaves_mk rs w' (hB g w' hs') fun w hw => ⟨v, by have := hr g _ w ha'.plain hw; exact this, v, A2, rfl, hQ, hi g w hw⟩
    cases e with
    | normal => exact fin a' w' ha' hs' hq
    | ret => exact fin a' w' ha' hs' hq
    | _ => exact hq.elim
/-! ## Rounds -/
/-- A loop's record: its state, the jump that waits, the frame that it copies. -/
def Lp (l : Nat) (st : LoopState) (pe : Option Code) (n : Nat) (ρ : Env) (ps : Array Tmp) (assign body : Code) : SP :=
  ex fun r : Loop => fun h => (r.state = st ∧ r.pending = pe ∧ r.params = ps ∧ r.assign = assign ∧ r.body = body ∧ Vl.Agr n ρ { tmps := r.tmps, defers := [] }) ∧ pt l (.loop r) h
/-- The frame of a round: yield's arguments in the parameters. -/
def putL (n : Nat) : Env → List Tmp → List Value → Env
  | ρ, t :: ts, v :: vs => putL n (put n ρ (some t) v) ts vs
  | ρ, _, _ => ρ
/-- How a round may be left: by what its body says at its end. -/
def rndQ (l n : Nat) (ρ0 : Env) (ps : Array Tmp) (assign body : Code) (Q : Value → Option Code → SP → Prop) : Post
  | .normal, _, A => ∃ B, (∀ g w, sat g w A → sat g w (B * Lp l .busy none n ρ0 ps assign body)) ∧ Q (.bool true) none B
  | .ret, _, A => ∃ B, (∀ g w, sat g w A → sat g w (B * Lp l .busy none n ρ0 ps assign body)) ∧ Q (.bool false) (some .ret) B
  | .exit id, _, A => ∃ B, (∀ g w, sat g w A → sat g w (B * Lp l .busy none n ρ0 ps assign body)) ∧ Q (.bool false) (some (.exit id)) B
  | _, _, _ => False
def stOf : Option Code → LoopState
  | none => .ready
  | some _ => .done
/-! ## The statement -/
/-- What is asked when the function that was ranged over has returned. -/
def jmpQ (Q : Post) (ρ : Env) (A : SP) : Option Code → Prop
  | none => Q .normal ρ A
  | some .ret => Q .ret ρ A
  | some (.exit id) => Q (.exit id) ρ A
  | _ => False
/-! ## Iterators -/
/-- What an iterator promises: it calls yield with val 0, val 1, .. up to N of them, till a round says no. K: what it holds of memory itself; a round leaves alone whatever else there is. -/
def It (P : Program) (gf : FuncId) (fs cs : List Value) (K : SP) (N : Nat) (val : Nat → List Value) : Prop :=
  ∀ (l : Nat) (J : Nat → SP → Prop) (X : SP → Prop) (S0 : SP), J 0 S0 →
    (∀ F i S, i < N → J i S → Yd P l (val i).toArray (F * S) fun v B => ∃ (b : Bool) (S' : SP), v = .bool b ∧ (b = true → J (i + 1) S') ∧ (b = false → X S') ∧ B = F * S') →
    Fn P gf (fs ++ [Value.func (.yield l) #[] #[]] ++ cs).toArray (S0 * K) fun r B => r = .tuple #[] ∧ ((∃ S, J N S ∧ B = S * K) ∨ ∃ S, X S ∧ B = S * K)
section
variable (l n : Nat) (ρ0 : Env) (ps : Array Tmp) (assign body : Code) (F : SP)
def rndI (I1 : SP → Prop) (X : Code → SP → Prop) : Post
  | .normal, _, A => ∃ S, (∀ g w, sat g w A → sat g w (F * S)) ∧ I1 S
  | .ret, _, A => ∃ S, (∀ g w, sat g w A → sat g w (F * S)) ∧ X .ret S
  | .exit id, _, A => ∃ S, (∀ g w, sat g w A → sat g w (F * S)) ∧ X (.exit id) S
  | _, _, _ => False
def asgI (P : Program) (I1 : SP → Prop) (X : Code → SP → Prop) : Post
  | .normal, ρ, A => ∃ S, (∀ g w, sat g w A → sat g w (F * S)) ∧ ∀ F, @TC ⟨some l⟩ P n body (rndI F I1 X) ρ (F * S)
  | _, _, _ => False
end
end Go.Vl.Rg

set_option linter.unusedVariables false
set_option linter.unusedSimpArgs false
namespace Go.Vl
open Go Go.Proofs
theorem ct_wf2 {A R : SP} {C : SP → SP} {d : Nat} {s : DevS} (hc : Ct A (Dev d s) R C) {g : Gh} {w : World} (hs : sat g w A) : WfD s := by
  obtain ⟨rfl, _⟩ := hc; exact (dev_iff.1 hs).1
theorem doneS_len (s : DevS) : (doneS s).ls.length = s.ls.length := by
  unfold doneS
  split
  · rfl
  · split
    · rfl
    · simp [goesS, goPart_length]
/-- Lines are flushed, one behind the other; then the fence. -/
def flF : Nat → Nat → DevS → Int × DevS
  | 0, _, s => fe s
  | k + 1, q, s => if (fl1 ((q * 64 : Nat) : Int) s).1 ≠ 0 then fl1 ((q * 64 : Nat) : Int) s else flF k (q + 1) (fl1 ((q * 64 : Nat) : Int) s).2
/-- A range is made to last. -/
def lastS (p m : Nat) (s : DevS) : Int × DevS := flF ((p + m - 1) / 64 - p / 64 + 1) (p / 64) s
attribute [local irreducible] Sl pt ro Dev imgS
namespace Rg
end Rg
end Go.Vl

set_option linter.unusedVariables false
set_option linter.unusedSimpArgs false
namespace Go.Vl
open Go Go.Proofs
def insB (n : Nat) (p m : Int) : Bool := decide (0 ≤ p ∧ 0 ≤ m ∧ p ≤ (n : Int) * 64 ∧ m ≤ (n : Int) * 64 - p)
/-- What Range, Bytes, Publish answer, and the device behind them. -/
def rangeP (p m : Int) (s : DevS) : Int × DevS := if s.off = true then (5, s) else if m < 1 then (0, s) else if rdy s.ls.length false p m ≠ 0 then (6, s) else lastS p.toNat m.toNat s
def bytesP (p : Int) (b : List Nat) (s : DevS) : Int × DevS := if s.off = true then (5, s) else if b = [] then (0, s) else if (sto p b s).1 ≠ 0 then sto p b s else lastS p.toNat b.length (sto p b s).2
def pubP (p : Int) (v : Nat) (s : DevS) : Int × DevS := if (st8 p v s).1 ≠ 0 then st8 p v s else lastS p.toNat 8 (st8 p v s).2
/-- A number of n bytes that is told. -/
def loadP (p : Int) (n : Nat) (s : DevS) : Nat × Int := if rdy s.ls.length s.off p n ≠ 0 then (0, rdy s.ls.length s.off p n) else (nm (((imgS s).drop p.toNat).take n), 0)
def wordP (p : Int) (s : DevS) : Nat × Int := if s.off = true then (0, 5) else if p % 8 ≠ 0 then (0, 6) else loadP p 8 s
attribute [local irreducible] Sl pt ro Dev imgS
end Go.Vl

set_option linter.unusedVariables false
set_option linter.unusedSimpArgs false
namespace Go.Vl
open Go Go.Proofs
/-! ### What all contents of the lines of a range have in common -/
/-- All contents of all lines have the bytes c from at_ on. -/
def Ag (at_ : Nat) (c : List Nat) (s : DevS) : Prop := ∀ x, x < c.length → ∀ l, s.ls[(at_ + x) / 64]? = some l → ∀ σ ∈ l.st, (lb σ)[(at_ + x) % 64]? = c[x]?
def AgI (at_ : Nat) (c : List Nat) (I : List Nat) : Prop := ∀ x, x < c.length → I[at_ + x]? = c[x]?
/-! ### Lines are flushed -/
/-- Lines from q on, k of them, flushed. -/
def flsh (k q : Nat) (ls : List LineS) : List LineS := ls.mapIdx fun i l => if q ≤ i ∧ i < q + k then flushL l else l
end Go.Vl

set_option linter.unusedVariables false
set_option linter.unusedSimpArgs false
namespace Go.Vl
open Go Go.Proofs
/-- v is no device: nil, or one that no call has made. -/
def NoD (A : SP) (v : Value) : Prop := v = .pointer none ∨ ∃ b, v = .pointer (some ⟨b, 0, none⟩) ∧ Cell A b 0 (.slice none 0 0)
theorem NoD.left {A X : SP} {v : Value} (h : NoD A v) : NoD (A * X) v := h.imp id fun ⟨b, e, hc⟩ => ⟨b, e, hc.left⟩
theorem FromNo_c {A : SP} {a : Option Addr} {m c : Nat} (hno : fitsB (m : Nat) = false := by decide) (hm : m ≤ 140737488351232 := by omega) :
    Fn Try.prog 42 #[.slice a m c] (A) (fun r B => r = .tuple #[.pointer none, .int .i64 80] ∧ A = B) := by
  refine fn_enterW (args := [.slice a m c]) Try.func42 rfl Try.ntmps42 (by simp) ?_; refine sr ?_; refine tla ?_; refine tla ?_; refine nq ?_; refine sr ?_; refine tlm ?_; refine tv (o_len Try.underlying28 rfl) ?_; refine tl_c rfl (o_call bd51 rfl (NewNo_c)) ?_; rintro _ _ ⟨rfl, rfl⟩; refine tlm ?_; refine tv (o_extract rfl rfl) ?_; refine tv (o_extract rfl rfl) ?_; refine tla ?_; refine tla ?_; refine nq ?_; refine tc_seq ?_; refine sr ?_; refine tlm ?_; refine tv (o_nei rfl rfl) ?_; refine nq ?_; refine tc_cond rfl (fun h => ?_) (fun h => ?_)
  · try simp only [lv1, lv2, lv3, lv4, lv5, lv6, Bool.not_true, Bool.not_false] at h
    refine sr ?_; refine tlm ?_; refine tla ?_; refine tla ?_; refine nq ?_; refine tc_ret ?_; refine q_then_r ?_; exact ⟨_, _, res2 rfl rfl rfl, fun _ _ h => h, rfl, rfl⟩
  · (exfalso; first | (revert h; simp; done) | (simp at h; done) | (revert h; simp; omega) | (simp at h; omega) | omega)
end Go.Vl

set_option linter.unusedVariables false
set_option linter.unusedSimpArgs false
namespace Go.Vl
open Go Go.Proofs
theorem imgS_len {s : DevS} (hw : WfD s) : (imgS s).length = s.ls.length * 64 := img_length hw.line
attribute [local irreducible] Sl pt ro Dev imgS
end Go.Vl

set_option linter.unusedVariables false
set_option linter.unusedSimpArgs false
namespace Go.Vl
open Go Go.Proofs
def wk1 : DevS := (bytesP 60 [1, 1, 1, 1, 1, 1, 1, 1] (newS 2)).2
def wk2 : DevS := (pubP 8 258 wk1).2
def wk3 : DevS := (crS [] wk2).2
def wk4 : DevS := { wk3 with off := false }
attribute [local irreducible] Sl pt ro Dev imgS
def nk1 : DevS := (crS [] (newS 1)).2
end Go.Vl

set_option linter.unusedVariables false
set_option linter.unusedSimpArgs false
namespace Go.Vl
open Go Go.Proofs
/-- An operation's cells. -/
structure Op9 where
  k : Int
  q : Int
  n : Int
  a : Option Addr
  c : Nat
  b : List Nat
  v : Nat
  ka : Option Addr
  kc : Nat
  kp : List Int
def Op9.cells (t : Op9) : List Value := [.int .i64 t.k, .int .i64 t.q, .int .i64 t.n, .slice t.a t.b.length t.c, .int .u64 (t.v : Nat), .slice t.ka t.kp.length t.kc]
structure Op9W (A : SP) (t : Op9) : Prop where
  cap : t.b.length ≤ t.c
  rs : Rs A t.a (bys t.b)
  byt : ∀ x ∈ t.b, x < 256
  v : t.v < 18446744073709551616
  kcap : t.kp.length ≤ t.kc
  krs : Rs A t.ka (ints t.kp)
  kb : ∀ x ∈ t.kp, -9223372036854775808 ≤ x ∧ x ≤ 9223372036854775807
  q : -9223372036854775808 ≤ t.q ∧ t.q ≤ 9223372036854775807
  n : -9223372036854775808 ≤ t.n ∧ t.n ≤ 9223372036854775807
def Op9.sz (t : Op9) : Nat := t.b.length + t.kp.length + 1
def ocs (l : List Op9) : List Value := l.flatMap Op9.cells
theorem flatF' {α : Type} {f : α → List Value} : ∀ {Cs : List (List Value)} {xs : List α} (_ : Cs.length = xs.length) (_ : ∀ i (h : i < xs.length) (h' : i < Cs.length), Cs[i] = f xs[i]), Cs.flatten = xs.flatMap f
  | [], [], _, _ => rfl
  | c :: Cs, x :: xs, hl, h => by
    have h0 := h 0 (by simp) (by simp)
    simp only [List.getElem_cons_zero] at h0
    rw [List.flatten_cons, h0, flatF' (f := f) (Cs := Cs) (xs := xs) (by simpa using hl) (fun i hi hi' => h (i + 1) (by simpa using hi) (by simpa using hi')), List.flatMap_cons]
theorem u64_wf' {x : Int} (h : (Lit.int .u64 x).wf = true) : ∃ m : Nat, x = m ∧ m < 18446744073709551616 := by
  have hb := Go.bounds_u64 h
  obtain ⟨m, rfl⟩ := Int.eq_ofNat_of_zero_le hb.1
  exact ⟨m, rfl, by omega⟩
def POps (A : SP) (cs : List Value) (ops : List Op9) : Prop := ∃ a cap, cs = [.slice a ops.length cap] ∧ ops.length ≤ cap ∧ Rs A a (ocs ops) ∧ ∀ t ∈ ops, Op9W A t
/-! ### An operation on the device alone -/
def rawS (t : Op9) (s : DevS) : DevS := if t.k = 7 then (sto ((wi t.q 256 : Nat) : Int) (t.b.take (256 - wi t.q 256)) s).2 else if t.k = 8 then (fl1 ((wi t.q 256 : Nat) : Int) s).2 else if t.k = 9 then (fe s).2 else s
theorem room_le {a b : Nat} {s : DevS} (h : Room a s) (hab : b ≤ a) : Room b s := fun l hl => Nat.le_trans (Nat.add_le_add_left hab _) (h l hl)
def rawL (l : List Op9) (s : DevS) : DevS := l.foldl (fun s t => rawS t s) s
/-- The same, but what would be stored into the range is passed over. -/
def rawB (at_ m : Nat) (t : Op9) (s : DevS) : DevS := if t.k = 7 ∧ wi t.q 256 < at_ + m ∧ at_ < wi t.q 256 + t.b.length then s else rawS t s
def rawLB (at_ m : Nat) (l : List Op9) (s : DevS) : DevS := l.foldl (fun s t => rawB at_ m t s) s
theorem cut_none {a : Option Addr} {c : Nat} : cutAddr a c 0 1 = a := by
  unfold cutAddr
  split
  · rfl
  · cases a <;> simp [Addr.add]
attribute [local irreducible] Sl pt ro Dev imgS
end Go.Vl

set_option linter.unusedVariables false
set_option linter.unusedSimpArgs false
namespace Go.Vl
open Go Go.Proofs
def xm (i : Nat) : Int := IntKind.u8.wrap (IntKind.i64.wrap ((BitVec.ofInt IntKind.i64.bits 165 ^^^ BitVec.ofInt IntKind.i64.bits (i : Int)).toNat))
/-- The marks behind a list of bytes. -/
def xmN (i : Nat) : Nat := (xm i).toNat
theorem xm_val (i : Nat) : Value.int .u8 (xm i) = .int .u8 ((xmN i : Nat) : Int) := by
  have h : 0 ≤ xm i := by unfold xm; simp [IntKind.wrap, IntKind.bits, IntKind.signed]; omega
  unfold xmN; rw [Int.toNat_of_nonneg h]
def spm (n : Nat) : List Nat := (List.range 80).map fun j => xmN (n + j)
theorem spm_len (n : Nat) : (spm n).length = 80 := by simp [spm]
def spi (n : Nat) : List Int := (List.range 9).map fun j => (7700 + ((n + j : Nat) : Int))
theorem spi_len (n : Nat) : (spi n).length = 9 := by simp [spi]
theorem spm_at {xs : List Nat} {i m : Nat} (hm : xs.length = m) (h : m ≤ i) (hi : i < (xs ++ spm m).length) : (xs ++ spm m)[i] = xmN i := by
  rw [List.getElem_append_right (by omega)]
  simp only [spm, List.getElem_map, List.getElem_range]; congr 1; omega
theorem spi_at {xs : List Int} {i m : Nat} (hm : xs.length = m) (h : m ≤ i) (hi : i < (xs ++ spi m).length) : (xs ++ spi m)[i] = 7700 + (i : Int) := by
  rw [List.getElem_append_right (by omega)]
  simp only [spi, List.getElem_map, List.getElem_range]; omega
theorem spare_step {α : Type} {W : List α} {L i : Nat} {v z : α} (hL : W.length = L) (hi : i < W.length) (hv : W[i] = v) : (W.take i ++ List.replicate (L - i) z).set i v = W.take (i + 1) ++ List.replicate (L - (i + 1)) z := by
  rw [set_mid (by rw [List.length_take]; omega) (by omega), List.take_succ_eq_append_getElem hi, hv]
theorem ints_rep (k : Nat) : List.replicate k (.int .i64 0) = ints (List.replicate k 0) := by simp [ints, i64]
theorem ints_take (xs : List Int) (n : Nat) : (ints xs).take n = ints (xs.take n) := by simp [ints, List.map_take]
theorem rs_pre {A : SP} {a : Option Addr} {xs ys : List Nat} (h : Rs A a (bys (xs ++ ys))) : Rs A a (bys xs) := by
  have := h.sub xs.length
  rwa [bys_takeG, List.take_left] at this
theorem rs_preI {A : SP} {a : Option Addr} {xs ys : List Int} (h : Rs A a (ints (xs ++ ys))) : Rs A a (ints xs) := by
  have := h.sub xs.length
  rwa [ints_take, List.take_left] at this
theorem int_lists {xs ys : List Int} {i : Nat} (h : xs.take i = ys.take i) (hi : i < xs.length) (hj : i < ys.length) (e : xs[i] = ys[i]) : xs.take (i + 1) = ys.take (i + 1) := by
  rw [List.take_succ_eq_append_getElem hi, List.take_succ_eq_append_getElem hj, h, e]
attribute [local irreducible] Sl pt ro
theorem Spare_c {A : SP} {a : Option Addr} {c m : Nat} {xs : List Nat} (hr : Rs A a (bys xs) := by repeat (first | assumption | with_reducible exact rs_sl | with_reducible exact rs_pt0 | exact rs_none | apply Rs.left)) (hm : xs.length = m := by first | assumption | rfl) (hl : m ≤ 8796093022208 := by omega) :
    Fn Try.prog 104 #[.slice a m c] (A) (fun v B => ∃ a, v = .slice a m (m + 80) ∧ B = A * Sl 1 (.slice a (m + 80) (m + 80)) (m + 80) (bys (xs ++ spm m))) := by
  refine fn_enterW (args := [.slice a m c]) Try.func104 rfl Try.ntmps104 (by simp) ?_
  have hW : (xs ++ spm m).length = m + 80 := by rw [List.length_append, hm, spm_len]
  refine sr ?_; refine tla ?_; refine nq ?_; refine sr ?_; refine tlm ?_; refine tv (o_len Try.underlying28 rfl) ?_; refine tv (by first | exact o_addI rfl rfl (by omega) | exact o_add rfl rfl) ?_; refine tl_env (d := 7) (v := .int .i64 ((m + 80 : Nat) : Int)) (rfl) ?_; refine tl_x rfl (o_makeSlice (len := m + 80) (cap := m + 80) Try.underlying28 sz5 by5 z5 rfl rfl rfl (by omega) (by omega) (by omega)) ?_; rintro _ _ ⟨b8, rfl, rfl⟩
  rw [bys_rep]
  refine tl_pre (fun _ _ h => sl_new (k := 1) (n := m + 80) (cap := m + 80) (xs := bys (List.replicate (m + 80) 0)) h (Nat.le_refl _) (by rw [bys_length, List.length_replicate]; omega) (by rw [List.take_of_length_le (by rw [bys_length, List.length_replicate]; omega)])) ?_; refine tla ?_; refine nq ?_; refine tc_seq ?_; refine sr ?_; refine tla ?_; refine nq ?_; refine tc_block ?_; refine tc_loop (fun kk ρ BB => ∃ (i : Nat), (i ≤ m + 80) ∧ kk = m + 80 - i ∧ ρ 4 = .int .i64 (i : Nat) ∧ ρ 0 = .slice a m c ∧ ρ 3 = .slice (some ⟨b8, 0, none⟩) (m + 80) (m + 80) ∧ BB = A * Sl 1 (.slice (some ⟨b8, 0, none⟩) (m + 80) (m + 80)) (m + 80) (bys ((xs ++ spm m).take i ++ List.replicate (m + 80 - i) 0))) (m := m + 80 - (0)) ?_ ?_
  · exact ⟨0, by omega, rfl, rfl, rfl, rfl, rfl⟩
  · intro k ρ B hI
    obtain ⟨i, hp0, hkk1, hE4, hE0, hE3, rfl⟩ := hI
    refine tc_env (d := 4) hE4 ?_; refine tc_env (d := 0) hE0 ?_; refine tc_env (d := 3) hE3 ?_
    clear hE4 hE0 hE3
    refine tc_seq ?_; refine sr ?_; refine tlm ?_; refine tlm ?_; refine tv (o_len Try.underlying28 rfl) ?_; refine tv (o_lss rfl rfl) ?_; refine nq ?_; refine tc_cond rfl (fun h => ?_) (fun h => ?_)
    · have hi : i < (xs ++ spm m).length := by simp at h; omega
      refine tc_skip ?_; refine q_then_n ?_; refine tc_seq ?_; refine tc_block ?_; refine sr ?_; refine tlm ?_; refine tlm ?_; refine tv (o_len Try.underlying28 rfl) ?_; refine tv (o_lss rfl rfl) ?_; refine nq ?_; refine tc_cond rfl (fun h => ?_) (fun h => ?_)
      · have hlt : i < xs.length := by simp at h; omega
        have hv : (xs ++ spm m)[i] = xs[i] := List.getElem_append_left (by omega)
        refine tc_reg ?_; refine tlm ?_; refine tlm ?_; refine tlm ?_; refine tlm ?_; refine tv (o_ixP1 Try.underlying28 sz5 rfl rfl (by first | omega | (simp only [bys_length, ints_length, wds_length, bos_length, List.length_append, List.length_take, List.length_drop, List.length_singleton]; omega)) (by repeat (first | exact nn_some | with_reducible exact nn_sl (by decide) | exact nn_rs (by assumption) (fun _ => by first | omega | (simp only [bys_length, ints_length, wds_length, bos_length, List.length_append, List.length_take, List.length_drop, List.length_singleton]; omega)) | apply Nn.left))) ?_; refine tv (o_ldP p5 rfl (by repeat (first | assumption | with_reducible exact rs_sl | with_reducible exact rs_pt0 | exact rs_none | apply Rs.left)) (by first | assumption | exact bys_at (by omega) | exact ints_at (by omega) | exact wds_at (by omega) | exact bos_at (by omega) | rfl)) ?_; refine tv (o_ixP1 Try.underlying28 sz5 rfl rfl (by first | omega | (simp only [bys_length, ints_length, wds_length, bos_length, List.length_append, List.length_take, List.length_drop, List.length_singleton]; omega)) (by repeat (first | exact nn_some | with_reducible exact nn_sl (by decide) | exact nn_rs (by assumption) (fun _ => by first | omega | (simp only [bys_length, ints_length, wds_length, bos_length, List.length_append, List.length_take, List.length_drop, List.length_singleton]; omega)) | apply Nn.left))) ?_; refine tl_u rfl (o_stP sz5 rfl rfl rfl (by repeat (first | with_reducible exact ct_here | apply ct_left)) (by omega) (by first | exact bys_set _ _ _ | exact ints_set _ _ _ | exact wds_set' _ _ _ | exact bos_set _ _ _ | rfl)) ?_
        refine tl_nil ?_; refine q_block_n (q_then_n ?_); refine tc_reg ?_; refine tlm ?_; refine tv (by first | exact o_addI rfl rfl (by omega) | exact o_add rfl rfl) ?_; refine tla ?_; refine nq ?_; exact ⟨_, by omega, i + 1, by omega, rfl, rfl, rfl, rfl, by rw [spare_step hW hi hv]⟩
      · have hv := spm_at hm (show m ≤ i by simp at h; omega) hi
        refine tc_reg ?_; refine tlm ?_; refine tlm ?_; refine tlm ?_; refine tv (o_xor rfl rfl) ?_; refine tv (by first | exact o_conv8 Try.underlying3 Try.underlying5 rfl | exact o_conv Try.underlying3 Try.underlying5 rfl) ?_; refine tl_env (d := 30) (v := .int .u8 ((xmN i : Nat) : Int)) (xm_val i) ?_; refine tv (o_ixP1 Try.underlying28 sz5 rfl rfl (by first | omega | (simp only [bys_length, ints_length, wds_length, bos_length, List.length_append, List.length_take, List.length_drop, List.length_singleton]; omega)) (by repeat (first | exact nn_some | with_reducible exact nn_sl (by decide) | exact nn_rs (by assumption) (fun _ => by first | omega | (simp only [bys_length, ints_length, wds_length, bos_length, List.length_append, List.length_take, List.length_drop, List.length_singleton]; omega)) | apply Nn.left))) ?_; refine tl_u rfl (o_stP sz5 rfl rfl rfl (by repeat (first | with_reducible exact ct_here | apply ct_left)) (by omega) (by first | exact bys_set _ _ _ | exact ints_set _ _ _ | exact wds_set' _ _ _ | exact bos_set _ _ _ | rfl)) ?_; refine tl_nil ?_; refine q_block_n (q_then_n ?_); refine tc_reg ?_; refine tlm ?_; refine tv (by first | exact o_addI rfl rfl (by omega) | exact o_add rfl rfl) ?_; refine tla ?_; refine nq ?_; exact ⟨_, by omega, i + 1, by omega, rfl, rfl, rfl, rfl, by rw [spare_step hW hi hv]⟩
    · obtain rfl : i = m + 80 := by simp at h; omega
      rw [List.take_of_length_le (by omega), Nat.sub_self, List.replicate_zero, List.append_nil]
      refine tc_exit ?_; refine q_then_e (q_then_e (q_block_x (q_then_n ?_))); refine sr ?_; refine tlm ?_; refine tlm ?_; refine tv (o_len Try.underlying28 rfl) ?_; refine tv (o_slice (l := 0) (h := m) Try.underlying28 sz5 rfl bnd_none (bnd_nat rfl) (by omega) (by omega)) ?_; refine tl_env (d := 35) (v := .slice (some ⟨b8, 0, none⟩) m (m + 80)) (by show Value.slice (cutAddr _ _ 0 1) (m - 0) (m + 80 - 0) = _; rw [cut_none]; rfl) ?_; refine tla ?_; refine nq ?_; refine tc_ret ?_; exact ⟨.slice (some ⟨b8, 0, none⟩) m (m + 80), _, res1 rfl rfl, fun _ _ h => h, some ⟨b8, 0, none⟩, rfl, rfl⟩
theorem Kept_c {A : SP} {a a2 : Option Addr} {c2 m : Nat} {xs : List Nat} (hr : Rs A a (bys (xs ++ spm m)) := by repeat (first | assumption | with_reducible exact rs_sl | with_reducible exact rs_pt0 | exact rs_none | apply Rs.left)) (hr2 : Rs A a2 (bys xs) := by repeat (first | assumption | with_reducible exact rs_sl | with_reducible exact rs_pt0 | exact rs_none | apply Rs.left)) (hm : xs.length = m := by first | assumption | rfl) (hl : m ≤ 8796093022208 := by omega) :
    Fn Try.prog 105 #[.slice a m (m + 80), .slice a2 m c2] (A) (fun v B => v = .bool true ∧ A = B) := by
  refine fn_enterW (args := [.slice a m (m + 80), .slice a2 m c2]) Try.func105 rfl Try.ntmps105 (by simp) ?_
  have hW : (xs ++ spm m).length = m + 80 := by rw [List.length_append, hm, spm_len]
  refine sr ?_; refine tla ?_; refine nq ?_; refine tc_seq ?_; refine sr ?_; refine tlm ?_; refine tlm ?_; refine tl_c rfl (o_call bd22 rfl (EqBytes_c (xs := xs) (ys := xs) (h1 := rs_pre hr))) ?_; rintro _ _ ⟨rfl, rfl⟩; refine tl_env (d := 9) (v := .bool true) (congrArg Value.bool (decide_eq_true rfl)) ?_; refine tv (o_not rfl) ?_; refine nq ?_; refine tc_cond rfl (fun h => ?_) (fun h => ?_)
  · exfalso; simp at h
  · try simp only [lv1, lv2, lv3, lv4, lv5, lv6, Bool.not_true, Bool.not_false] at h
    refine tc_skip ?_; refine q_then_n ?_; refine sr ?_; refine tlm ?_; refine tlm ?_; refine tv (o_len Try.underlying28 rfl) ?_; refine tv (by first | exact o_addI rfl rfl (by omega) | exact o_add rfl rfl) ?_; refine tl_env (d := 14) (v := .int .i64 ((m + 80 : Nat) : Int)) (rfl) ?_; refine tv (o_slice (l := 0) (h := m + 80) Try.underlying28 sz5 rfl bnd_none (bnd_nat rfl) (by omega) (by omega)) ?_; refine tl_env (d := 15) (v := .slice a (m + 80) (m + 80)) (by show Value.slice (cutAddr _ _ 0 1) (m + 80 - 0) (m + 80 - 0) = _; rw [cut_none]; rfl) ?_; refine tla ?_; refine nq ?_; refine tc_seq ?_; refine sr ?_; refine tlm ?_; refine tv (o_len Try.underlying28 rfl) ?_; refine tla ?_; refine nq ?_; refine tc_block ?_; refine tc_loop (fun kk ρ BB => ∃ (i : Nat), (m ≤ i) ∧ (i ≤ m + 80) ∧ kk = m + 80 - i ∧ ρ 6 = .int .i64 (i : Nat) ∧ ρ 5 = .slice a (m + 80) (m + 80) ∧ BB = A) (m := m + 80 - (m)) ?_ ?_
    · exact ⟨m, by omega, by omega, rfl, rfl, rfl, rfl⟩
    · intro k ρ B hI
      obtain ⟨i, hp0, hp1, hkk1, hE6, hE5, hBA⟩ := hI
      obtain rfl := hBA.symm
      refine tc_env (d := 6) hE6 ?_; refine tc_env (d := 5) hE5 ?_
      clear hE6 hE5
      refine tc_seq ?_; refine sr ?_; refine tlm ?_; refine tlm ?_; refine tv (o_len Try.underlying28 rfl) ?_; refine tv (o_lss rfl rfl) ?_; refine nq ?_; refine tc_cond rfl (fun h => ?_) (fun h => ?_)
      · have hi : i < (xs ++ spm m).length := by simp at h; omega
        have hv := spm_at hm hp0 hi
        refine tc_skip ?_; refine q_then_n ?_; refine tc_seq ?_; refine tc_block ?_; refine sr ?_; refine tlm ?_; refine tlm ?_; refine tv (o_ixP1 Try.underlying28 sz5 rfl rfl (by omega) (nn_rs hr (fun _ => by rw [bys_length]; omega))) ?_; refine tv (o_ldP p5 rfl hr (bys_at hi)) ?_; refine tl_env (d := 27) (v := .int .u8 ((xmN i : Nat) : Int)) (congrArg (fun z : Nat => Value.int .u8 (z : Int)) hv) ?_; refine tlm ?_; refine tv (o_xor rfl rfl) ?_; refine tv (by first | exact o_conv8 Try.underlying3 Try.underlying5 rfl | exact o_conv Try.underlying3 Try.underlying5 rfl) ?_; refine tl_env (d := 30) (v := .int .u8 ((xmN i : Nat) : Int)) (xm_val i) ?_; refine tv (o_nei rfl rfl) ?_; refine nq ?_; refine tc_cond rfl (fun h => ?_) (fun h => ?_)
        · exfalso; simp at h
        · try simp only [lv1, lv2, lv3, lv4, lv5, lv6, Bool.not_true, Bool.not_false] at h
          refine tc_skip ?_; refine q_block_n (q_then_n ?_); refine tc_reg ?_; refine tlm ?_; refine tv (by first | exact o_addI rfl rfl (by omega) | exact o_add rfl rfl) ?_; refine tla ?_; refine nq ?_; exact ⟨_, by omega, i + 1, by omega, by omega, rfl, rfl, rfl, rfl⟩
      · try simp only [lv1, lv2, lv3, lv4, lv5, lv6, Bool.not_true, Bool.not_false] at h
        refine tc_exit ?_; refine q_then_e (q_then_e (q_block_x (q_then_n ?_))); refine sr ?_; refine tla ?_; refine nq ?_; refine tc_ret ?_; refine ⟨_, _, res1 rfl rfl, ?_, rfl, rfl⟩; exact Dr.sat (by repeat (first | with_reducible exact dr_refl | apply dr_keep | apply dr_drop))
theorem SpareInts_c {A : SP} {a : Option Addr} {c m : Nat} {xs : List Int} (hr : Rs A a (ints xs) := by repeat (first | assumption | with_reducible exact rs_sl | with_reducible exact rs_pt0 | exact rs_none | apply Rs.left)) (hm : xs.length = m := by first | assumption | rfl) (hl : m ≤ 8796093022208 := by omega) :
    Fn Try.prog 113 #[.slice a m c] (A) (fun v B => ∃ a, v = .slice a m (m + 9) ∧ B = A * Sl 1 (.slice a (m + 9) (m + 9)) (m + 9) (ints (xs ++ spi m))) := by
  refine fn_enterW (args := [.slice a m c]) Try.func113 rfl Try.ntmps113 (by simp) ?_
  have hW : (xs ++ spi m).length = m + 9 := by rw [List.length_append, hm, spi_len]
  refine sr ?_; refine tla ?_; refine nq ?_; refine sr ?_; refine tlm ?_; refine tv (o_len Try.underlying37 rfl) ?_; refine tv (by first | exact o_addI rfl rfl (by omega) | exact o_add rfl rfl) ?_; refine tl_env (d := 7) (v := .int .i64 ((m + 9 : Nat) : Int)) (rfl) ?_; refine tl_x rfl (o_makeSlice (len := m + 9) (cap := m + 9) Try.underlying37 sz3 by3 z3 rfl rfl rfl (by omega) (by omega) (by omega)) ?_; rintro _ _ ⟨b8, rfl, rfl⟩
  rw [ints_rep]
  refine tl_pre (fun _ _ h => sl_new (k := 1) (n := m + 9) (cap := m + 9) (xs := ints (List.replicate (m + 9) 0)) h (Nat.le_refl _) (by rw [ints_length, List.length_replicate]; omega) (by rw [List.take_of_length_le (by rw [ints_length, List.length_replicate]; omega)])) ?_; refine tla ?_; refine nq ?_; refine tc_seq ?_; refine sr ?_; refine tla ?_; refine nq ?_; refine tc_block ?_; refine tc_loop (fun kk ρ BB => ∃ (i : Nat), (i ≤ m + 9) ∧ kk = m + 9 - i ∧ ρ 4 = .int .i64 (i : Nat) ∧ ρ 0 = .slice a m c ∧ ρ 3 = .slice (some ⟨b8, 0, none⟩) (m + 9) (m + 9) ∧ BB = A * Sl 1 (.slice (some ⟨b8, 0, none⟩) (m + 9) (m + 9)) (m + 9) (ints ((xs ++ spi m).take i ++ List.replicate (m + 9 - i) 0))) (m := m + 9 - (0)) ?_ ?_
  · exact ⟨0, by omega, rfl, rfl, rfl, rfl, rfl⟩
  · intro k ρ B hI
    obtain ⟨i, hp0, hkk1, hE4, hE0, hE3, rfl⟩ := hI
    refine tc_env (d := 4) hE4 ?_; refine tc_env (d := 0) hE0 ?_; refine tc_env (d := 3) hE3 ?_
    clear hE4 hE0 hE3
    refine tc_seq ?_; refine sr ?_; refine tlm ?_; refine tlm ?_; refine tv (o_len Try.underlying37 rfl) ?_; refine tv (o_lss rfl rfl) ?_; refine nq ?_; refine tc_cond rfl (fun h => ?_) (fun h => ?_)
    · have hi : i < (xs ++ spi m).length := by simp at h; omega
      refine tc_skip ?_; refine q_then_n ?_; refine tc_seq ?_; refine tc_block ?_; refine sr ?_; refine tlm ?_; refine tlm ?_; refine tv (o_len Try.underlying37 rfl) ?_; refine tv (o_lss rfl rfl) ?_; refine nq ?_; refine tc_cond rfl (fun h => ?_) (fun h => ?_)
      · have hlt : i < xs.length := by simp at h; omega
        have hv : (xs ++ spi m)[i] = xs[i] := List.getElem_append_left (by omega)
        refine tc_reg ?_; refine tlm ?_; refine tlm ?_; refine tlm ?_; refine tlm ?_; refine tv (o_ixP1 Try.underlying37 sz3 rfl rfl (by first | omega | (simp only [bys_length, ints_length, wds_length, bos_length, List.length_append, List.length_take, List.length_drop, List.length_singleton]; omega)) (by repeat (first | exact nn_some | with_reducible exact nn_sl (by decide) | exact nn_rs (by assumption) (fun _ => by first | omega | (simp only [bys_length, ints_length, wds_length, bos_length, List.length_append, List.length_take, List.length_drop, List.length_singleton]; omega)) | apply Nn.left))) ?_; refine tv (o_ldP p3 rfl (by repeat (first | assumption | with_reducible exact rs_sl | with_reducible exact rs_pt0 | exact rs_none | apply Rs.left)) (by first | assumption | exact bys_at (by omega) | exact ints_at (by omega) | exact wds_at (by omega) | exact bos_at (by omega) | rfl)) ?_; refine tv (o_ixP1 Try.underlying37 sz3 rfl rfl (by first | omega | (simp only [bys_length, ints_length, wds_length, bos_length, List.length_append, List.length_take, List.length_drop, List.length_singleton]; omega)) (by repeat (first | exact nn_some | with_reducible exact nn_sl (by decide) | exact nn_rs (by assumption) (fun _ => by first | omega | (simp only [bys_length, ints_length, wds_length, bos_length, List.length_append, List.length_take, List.length_drop, List.length_singleton]; omega)) | apply Nn.left))) ?_; refine tl_u rfl (o_stP sz3 rfl rfl rfl (by repeat (first | with_reducible exact ct_here | apply ct_left)) (by omega) (by first | exact bys_set _ _ _ | exact ints_set _ _ _ | exact wds_set' _ _ _ | exact bos_set _ _ _ | rfl)) ?_
        refine tl_nil ?_; refine q_block_n (q_then_n ?_); refine tc_reg ?_; refine tlm ?_; refine tv (by first | exact o_addI rfl rfl (by omega) | exact o_add rfl rfl) ?_; refine tla ?_; refine nq ?_; exact ⟨_, by omega, i + 1, by omega, rfl, rfl, rfl, rfl, by rw [spare_step hW hi hv]⟩
      · have hv := spi_at hm (show m ≤ i by simp at h; omega) hi
        refine tc_reg ?_; refine tlm ?_; refine tlm ?_; refine tlm ?_; refine tv (by first | exact o_addI rfl rfl (by omega) | exact o_add rfl rfl) ?_; refine tv (o_ixP1 Try.underlying37 sz3 rfl rfl (by first | omega | (simp only [bys_length, ints_length, wds_length, bos_length, List.length_append, List.length_take, List.length_drop, List.length_singleton]; omega)) (by repeat (first | exact nn_some | with_reducible exact nn_sl (by decide) | exact nn_rs (by assumption) (fun _ => by first | omega | (simp only [bys_length, ints_length, wds_length, bos_length, List.length_append, List.length_take, List.length_drop, List.length_singleton]; omega)) | apply Nn.left))) ?_; refine tl_u rfl (o_stP sz3 rfl rfl rfl (by repeat (first | with_reducible exact ct_here | apply ct_left)) (by omega) (by first | exact bys_set _ _ _ | exact ints_set _ _ _ | exact wds_set' _ _ _ | exact bos_set _ _ _ | rfl)) ?_; refine tl_nil ?_; refine q_block_n (q_then_n ?_); refine tc_reg ?_; refine tlm ?_; refine tv (by first | exact o_addI rfl rfl (by omega) | exact o_add rfl rfl) ?_; refine tla ?_; refine nq ?_; exact ⟨_, by omega, i + 1, by omega, rfl, rfl, rfl, rfl, by rw [spare_step hW hi hv]⟩
    · obtain rfl : i = m + 9 := by simp at h; omega
      rw [List.take_of_length_le (by omega), Nat.sub_self, List.replicate_zero, List.append_nil]
      refine tc_exit ?_; refine q_then_e (q_then_e (q_block_x (q_then_n ?_))); refine sr ?_; refine tlm ?_; refine tlm ?_; refine tv (o_len Try.underlying37 rfl) ?_; refine tv (o_slice (l := 0) (h := m) Try.underlying37 sz3 rfl bnd_none (bnd_nat rfl) (by omega) (by omega)) ?_; refine tl_env (d := 34) (v := .slice (some ⟨b8, 0, none⟩) m (m + 9)) (by show Value.slice (cutAddr _ _ 0 1) (m - 0) (m + 9 - 0) = _; rw [cut_none]; rfl) ?_; refine tla ?_; refine nq ?_; refine tc_ret ?_; exact ⟨.slice (some ⟨b8, 0, none⟩) m (m + 9), _, res1 rfl rfl, fun _ _ h => h, some ⟨b8, 0, none⟩, rfl, rfl⟩
theorem EqInts_c {A : SP} {a1 a2 : Option Addr} {c1 c2 n m : Nat} {xs ys : List Int} (h1 : Rs A a1 (ints xs) := by repeat (first | assumption | with_reducible exact rs_sl | with_reducible exact rs_pt0 | exact rs_none | apply Rs.left)) (h2 : Rs A a2 (ints ys) := by repeat (first | assumption | with_reducible exact rs_sl | with_reducible exact rs_pt0 | exact rs_none | apply Rs.left)) (hx : xs.length = n := by first | assumption | rfl) (hy : ys.length = m := by first | assumption | rfl) (hn : n ≤ 4611686018427387904 := by omega) (hm : m ≤ 4611686018427387904 := by omega) :
    Fn Try.prog 140 #[.slice a1 n c1, .slice a2 m c2] (A) (fun v B => v = .bool (decide (xs = ys)) ∧ A = B) := by
  refine fn_enterW (args := [.slice a1 n c1, .slice a2 m c2]) Try.func140 rfl Try.ntmps140 (by simp) ?_; refine sr ?_; refine tla ?_; refine nq ?_; refine tc_seq ?_; refine sr ?_; refine tlm ?_; refine tv (o_len Try.underlying37 rfl) ?_; refine tlm ?_; refine tv (o_len Try.underlying37 rfl) ?_; refine tv (o_nei rfl rfl) ?_; refine nq ?_; refine tc_cond rfl (fun h => ?_) (fun h => ?_)
  · try simp only [lv1, lv2, lv3, lv4, lv5, lv6, Bool.not_true, Bool.not_false] at h
    refine sr ?_; refine tla ?_; refine nq ?_; refine tc_ret ?_; refine q_then_r ?_; refine ⟨.bool false, _, res1 rfl rfl, ?_, (by rw [decide_eq_false]; intro e; subst e; omega), rfl⟩; exact Dr.sat (by repeat (first | with_reducible exact dr_refl | apply dr_keep | apply dr_drop))
  · try simp only [lv1, lv2, lv3, lv4, lv5, lv6, Bool.not_true, Bool.not_false] at h
    refine tc_skip ?_; refine q_then_n ?_; refine tc_seq ?_; refine sr ?_; refine tla ?_; refine nq ?_; refine tc_block ?_; refine tc_loop (fun kk ρ BB => ∃ (i : Nat), (i ≤ n) ∧ (xs.take i = ys.take i) ∧ kk = n - i ∧ ρ 5 = .int .i64 (i : Nat) ∧ ρ 0 = .slice a1 n c1 ∧ ρ 1 = .slice a2 m c2 ∧ BB = A) (m := n - (0)) ?_ ?_
    · exact ⟨0, by omega, rfl, rfl, rfl, rfl, rfl, rfl⟩
    · intro k ρ B hI
      obtain ⟨i, hp0, hp1, hkk1, hE5, hE0, hE1, hBA⟩ := hI
      obtain rfl := hBA.symm
      refine tc_env (d := 5) hE5 ?_; refine tc_env (d := 0) hE0 ?_; refine tc_env (d := 1) hE1 ?_
      clear hE5 hE0 hE1
      refine tc_seq ?_; refine sr ?_; refine tlm ?_; refine tlm ?_; refine tv (o_len Try.underlying37 rfl) ?_; refine tv (o_lss rfl rfl) ?_; refine nq ?_; refine tc_cond rfl (fun h => ?_) (fun h => ?_)
      · have hi : i < xs.length := by simp at h; omega
        have hj : i < ys.length := by omega
        refine tc_skip ?_; refine q_then_n ?_; refine tc_seq ?_; refine tc_block ?_; refine tc_seq ?_; refine tc_regq mo (by kernel_rfl) ?_; refine ql_v rfl (o_move (by conv => lhs; whnf)) ?_; refine ql_v rfl (o_move (by conv => lhs; whnf)) ?_; refine ql_v rfl (o_ixP1 Try.underlying37 sz3 rfl rfl (by omega) (nn_rs h1 (fun _ => by rw [ints_length]; omega))) ?_; refine ql_v rfl (o_ldP p3 rfl h1 (ints_at hi)) ?_; refine ql_v rfl (o_move (by conv => lhs; whnf)) ?_; refine ql_v rfl (o_move (by conv => lhs; whnf)) ?_; refine ql_v rfl (o_ixP1 Try.underlying37 sz3 rfl rfl (by omega) (nn_rs h2 (fun _ => by rw [ints_length]; omega))) ?_; refine ql_v rfl (o_ldP p3 rfl h2 (ints_at hj)) ?_; refine ql_v rfl (o_nei rfl rfl) ?_; refine ql_nil ?_; refine q_then_n ?_; refine tc_cond rfl (fun h => ?_) (fun h => ?_)
        · try simp only [lv1, lv2, lv3, lv4, lv5, lv6, Bool.not_true, Bool.not_false] at h
          refine sr ?_; refine tla ?_; refine nq ?_; refine tc_ret ?_; refine q_block_r (q_then_r (q_then_r (q_block_r (q_then_r ?_)))); refine ⟨.bool false, _, res1 rfl rfl, ?_, (by rw [decide_eq_false]; intro e; subst e; simp at h), rfl⟩; exact Dr.sat (by repeat (first | with_reducible exact dr_refl | apply dr_keep | apply dr_drop))
        · have heq : xs[i] = ys[i] := by simpa using h
          refine tc_skip ?_; refine q_block_n (q_then_n ?_); refine tc_reg ?_; refine tlm ?_; refine tv (by first | exact o_addI rfl rfl (by omega) | exact o_add rfl rfl) ?_; refine tla ?_; refine nq ?_; exact ⟨_, by omega, i + 1, by omega, int_lists hp1 hi hj heq, rfl, rfl, rfl, rfl, rfl⟩
      · try simp only [lv1, lv2, lv3, lv4, lv5, lv6, Bool.not_true, Bool.not_false] at h
        refine tc_exit ?_; refine q_then_e (q_then_e (q_block_x (q_then_n ?_))); refine sr ?_; refine tla ?_; refine nq ?_; refine tc_ret ?_; refine ⟨.bool true, _, res1 rfl rfl, ?_, (by rw [decide_eq_true]; have e : i = n := (by simp at h; omega); rw [List.take_of_length_le (by omega), List.take_of_length_le (by omega)] at hp1; exact hp1), rfl⟩; exact Dr.sat (by repeat (first | with_reducible exact dr_refl | apply dr_keep | apply dr_drop))
theorem KeptInts_c {A : SP} {a a2 : Option Addr} {c2 m : Nat} {xs : List Int} (hr : Rs A a (ints (xs ++ spi m)) := by repeat (first | assumption | with_reducible exact rs_sl | with_reducible exact rs_pt0 | exact rs_none | apply Rs.left)) (hr2 : Rs A a2 (ints xs) := by repeat (first | assumption | with_reducible exact rs_sl | with_reducible exact rs_pt0 | exact rs_none | apply Rs.left)) (hm : xs.length = m := by first | assumption | rfl) (hl : m ≤ 8796093022208 := by omega) :
    Fn Try.prog 114 #[.slice a m (m + 9), .slice a2 m c2] (A) (fun v B => v = .bool true ∧ A = B) := by
  refine fn_enterW (args := [.slice a m (m + 9), .slice a2 m c2]) Try.func114 rfl Try.ntmps114 (by simp) ?_
  have hW : (xs ++ spi m).length = m + 9 := by rw [List.length_append, hm, spi_len]
  refine sr ?_; refine tla ?_; refine nq ?_; refine tc_seq ?_; refine sr ?_; refine tlm ?_; refine tlm ?_; refine tl_c rfl (o_call bd140 rfl (EqInts_c (xs := xs) (ys := xs) (h1 := rs_preI hr))) ?_; rintro _ _ ⟨rfl, rfl⟩; refine tl_env (d := 9) (v := .bool true) (congrArg Value.bool (decide_eq_true rfl)) ?_; refine tv (o_not rfl) ?_; refine nq ?_; refine tc_cond rfl (fun h => ?_) (fun h => ?_)
  · exfalso; simp at h
  · try simp only [lv1, lv2, lv3, lv4, lv5, lv6, Bool.not_true, Bool.not_false] at h
    refine tc_skip ?_; refine q_then_n ?_; refine sr ?_; refine tlm ?_; refine tlm ?_; refine tv (o_len Try.underlying37 rfl) ?_; refine tv (by first | exact o_addI rfl rfl (by omega) | exact o_add rfl rfl) ?_; refine tl_env (d := 14) (v := .int .i64 ((m + 9 : Nat) : Int)) (rfl) ?_; refine tv (o_slice (l := 0) (h := m + 9) Try.underlying37 sz3 rfl bnd_none (bnd_nat rfl) (by omega) (by omega)) ?_; refine tl_env (d := 15) (v := .slice a (m + 9) (m + 9)) (by show Value.slice (cutAddr _ _ 0 1) (m + 9 - 0) (m + 9 - 0) = _; rw [cut_none]; rfl) ?_; refine tla ?_; refine nq ?_; refine tc_seq ?_; refine sr ?_; refine tlm ?_; refine tv (o_len Try.underlying37 rfl) ?_; refine tla ?_; refine nq ?_; refine tc_block ?_; refine tc_loop (fun kk ρ BB => ∃ (i : Nat), (m ≤ i) ∧ (i ≤ m + 9) ∧ kk = m + 9 - i ∧ ρ 6 = .int .i64 (i : Nat) ∧ ρ 5 = .slice a (m + 9) (m + 9) ∧ BB = A) (m := m + 9 - (m)) ?_ ?_
    · exact ⟨m, by omega, by omega, rfl, rfl, rfl, rfl⟩
    · intro k ρ B hI
      obtain ⟨i, hp0, hp1, hkk1, hE6, hE5, hBA⟩ := hI
      obtain rfl := hBA.symm
      refine tc_env (d := 6) hE6 ?_; refine tc_env (d := 5) hE5 ?_
      clear hE6 hE5
      refine tc_seq ?_; refine sr ?_; refine tlm ?_; refine tlm ?_; refine tv (o_len Try.underlying37 rfl) ?_; refine tv (o_lss rfl rfl) ?_; refine nq ?_; refine tc_cond rfl (fun h => ?_) (fun h => ?_)
      · have hi : i < (xs ++ spi m).length := by simp at h; omega
        have hv := spi_at hm hp0 hi
        refine tc_skip ?_; refine q_then_n ?_; refine tc_seq ?_; refine tc_block ?_; refine sr ?_; refine tlm ?_; refine tlm ?_; refine tv (o_ixP1 Try.underlying37 sz3 rfl rfl (by omega) (nn_rs hr (fun _ => by rw [ints_length]; omega))) ?_; refine tv (o_ldP p3 rfl hr (ints_at hi)) ?_; refine tl_env (d := 27) (v := .int .i64 (7700 + (i : Int))) (congrArg (Value.int .i64) hv) ?_; refine tlm ?_; refine tv (by first | exact o_addI rfl rfl (by omega) | exact o_add rfl rfl) ?_; refine tv (o_nei rfl rfl) ?_; refine nq ?_; refine tc_cond rfl (fun h => ?_) (fun h => ?_)
        · exfalso; simp at h
        · try simp only [lv1, lv2, lv3, lv4, lv5, lv6, Bool.not_true, Bool.not_false] at h
          refine tc_skip ?_; refine q_block_n (q_then_n ?_); refine tc_reg ?_; refine tlm ?_; refine tv (by first | exact o_addI rfl rfl (by omega) | exact o_add rfl rfl) ?_; refine tla ?_; refine nq ?_; exact ⟨_, by omega, i + 1, by omega, by omega, rfl, rfl, rfl, rfl⟩
      · try simp only [lv1, lv2, lv3, lv4, lv5, lv6, Bool.not_true, Bool.not_false] at h
        refine tc_exit ?_; refine q_then_e (q_then_e (q_block_x (q_then_n ?_))); refine sr ?_; refine tla ?_; refine nq ?_; refine tc_ret ?_; refine ⟨_, _, res1 rfl rfl, ?_, rfl, rfl⟩; exact Dr.sat (by repeat (first | with_reducible exact dr_refl | apply dr_keep | apply dr_drop))
end Go.Vl

set_option linter.unusedVariables false
set_option linter.unusedSimpArgs false
namespace Go.Vl
open Go Go.Proofs
theorem rdA_nil {A : SP} {a : Option Addr} : RdA A a [] [] := ⟨rs_nil, rfl, fun i h => by simp at h⟩
/-- The book, without its device. -/
def PlD (p d : Nat) (sv hv lv uv mv : Value) (hvs : List Value) (P : PlS) : SP :=
  pt p (cl (pcs d sv hv lv uv mv) 46) * Words hvs P.held * Sl 1 sv P.seen.length (wds P.seen) * Sl 1 hv P.seen.length hvs * Sl 1 lv P.seen.length (wds P.last) * Sl 1 uv P.seen.length (bos P.sure) * Sl 1 mv P.marks.length (ints P.marks)
/-- A book beside a device on which a loss of power is planned. -/
def armP (after : Int) (keep : List Int) (Q : PlS) : PlS := { Q with s := { Q.s with arms := [(after, keep)], cnt := Q.s.ops } }
/-- What one step does to both. -/
structure ArmStep (after : Int) (keep : List Int) (P' : Bool × PlS) (Q : PlS) (Q' : Bool × PlS) : Prop where
  ok : Q'.1 = true
  ops : P'.2.s.ops = Q'.2.s.ops
  near : Q'.2.s.ops = Q.s.ops ∨ Q'.2.s.ops = Q.s.ops + 1
  on : Q'.2.s.ops ≠ after → P' = (true, armP after keep Q'.2)
  gone : Q'.2.s.ops = after → P'.1 = false ∧ P'.2.s.off = true ∧ P'.2.s.arms = [] ∧ P'.2.s.ls = (goesS keep Q'.2.s).ls
theorem WfP.mono {r r' : Nat} {P : PlS} (h : WfP r P) (hr : r' ≤ r) : WfP r' P := ⟨h.pos, h.top, h.ls, h.seen, h.held, h.last, h.sure, fun l hl => by have := h.room l hl; omega, fun l hl => by have := h.hroom l hl; omega⟩
end Go.Vl

set_option linter.unusedVariables false
set_option linter.unusedSimpArgs false
namespace Go.Vl
open Go Go.Proofs
section
variable {P : Program} {n : Nat} {ρ : Env} {dst : Option Nat} {ty : TypeId} {pos : String} {after : Array Edge} {gd : Option (Nat × Bool)} {A : SP}
end
def rdT (n : Nat) (I : List Nat) : List Int × Int := if I.take 64 = sbB [n, 128, 32768, 32896, (n - 32896) / 256, 0] then ([(n : Int), ((128 : Nat) : Int), ((32768 : Nat) : Int), ((32896 : Nat) : Int), (((n - 32896) / 256 : Nat) : Int)], 0) else ([0, 0, 0, 0, 0], 100)
attribute [local irreducible] crk crL crc Sl pt ro mbs sbB planT Dev imgS
end Go.Vl

set_option linter.unusedVariables false
set_option linter.unusedSimpArgs false
namespace Go.Vl
open Go Go.Proofs
attribute [local irreducible] crk crL crc Sl pt ro mbs sbB planT Dev imgS
/-- What Read and Root answer. -/
def rdA (s : DevS) : List Int × Int := if s.off = true then ([0, 0, 0, 0, 0], 5) else if 578 ≤ s.ls.length then rdT (s.ls.length * 64) (imgS s) else ([0, 0, 0, 0, 0], 100)
def rootA (s : DevS) : Nat × Int := if (rdA s).2 ≠ 0 then (0, (rdA s).2) else wordP 64 s
end Go.Vl

set_option linter.unusedVariables false
set_option linter.unusedSimpArgs false
namespace Go.Vl
open Go Go.Proofs
/-- Every line has one content alone. -/
def Cln (s : DevS) : Prop := ∀ l ∈ s.ls, l.st.length = 1
def chunk (q : Nat) (I : List Nat) : List Nat := (I.drop (q * 64)).take 64
/-- Every content of every line is as X says. -/
def Poss (X : Nat → List Nat → Prop) (s : DevS) : Prop := ∀ (q : Nat) (l : LineS), s.ls[q]? = some l → ∀ σ ∈ l.st, X q (lb σ)
theorem poss_sub {X : Nat → List Nat → Prop} {s s' : DevS} (h : Poss X s) (hs : ∀ (q : Nat) (l' : LineS), s'.ls[q]? = some l' → ∃ l : LineS, s.ls[q]? = some l ∧ ∀ σ ∈ l'.st, σ ∈ l.st) : Poss X s' := fun q l' hl' σ hσ => by
  obtain ⟨l, hl, hsub⟩ := hs _ _ hl'
  exact h q l hl σ (hsub σ hσ)
theorem goes_sub {kp : List Int} {s : DevS} (hw : WfD s) (q : Nat) (l' : LineS) (hl' : (goesS kp s).ls[q]? = some l') : ∃ l : LineS, s.ls[q]? = some l ∧ (∀ σ ∈ l'.st, σ ∈ l.st) ∧ l'.st.length = 1 := by
  simp only [goesS, goPart, List.getElem?_mapIdx] at hl'
  cases e : s.ls[q]? with
  | none => rw [e] at hl'; cases hl'
  | some l =>
    rw [e] at hl'
    simp only [Option.map_some, Option.some.injEq] at hl'
    have hq := (List.getElem?_eq_some_iff.1 e).1
    subst hl'
    rw [if_pos hq]
    refine ⟨l, rfl, fun σ hσ => ?_, rfl⟩
    have hp : 0 < l.st.length := List.length_pos_iff.2 (hw.line l (List.mem_of_getElem? e)).ne
    have hk := kOf_lt (keep := kp) (i := q) hp
    simp only [goL, List.mem_singleton] at hσ
    rw [hσ]; simp [List.getD, hk]
theorem goes_poss {kp : List Int} {s : DevS} {X : Nat → List Nat → Prop} (hw : WfD s) (h : Poss X s) : Poss X (goesS kp s) := poss_sub h fun q l' hl' => by
  obtain ⟨l, h1, h2, _⟩ := goes_sub hw q l' hl'; exact ⟨l, h1, h2⟩
theorem goes_cln {kp : List Int} {s : DevS} (hw : WfD s) : Cln (goesS kp s) := fun l hl => by
  obtain ⟨q, hq, rfl⟩ := List.mem_iff_getElem.1 hl
  obtain ⟨_, _, _, h⟩ := goes_sub hw q _ (List.getElem?_eq_getElem hq); exact h
/-- The state behind a loss. -/
def Lost (X : Nat → List Nat → Prop) (n : Nat) (s : DevS) : Prop := s.off = true ∧ WfD s ∧ Cln s ∧ Poss X s ∧ s.ls.length = n
theorem done_loss {X : Nat → List Nat → Prop} {s : DevS} (hw : WfD s) (h : Poss X s) : (doneE s = 0 ∧ (doneS s).ls = s.ls ∧ (doneS s).off = s.off) ∨ (doneE s = 5 ∧ Lost X s.ls.length (doneS s)) := by
  have hw' := doneS_wf hw
  have hl := doneS_len s
  unfold Lost doneE doneS at *
  cases e : s.arms with
  | nil => exact .inl ⟨rfl, rfl, rfl⟩
  | cons a ar =>
    simp only [e] at hw' hl ⊢
    by_cases c : wr64 (s.cnt + 1) < a.1
    · rw [if_pos c, if_pos c]; exact .inl ⟨rfl, rfl, rfl⟩
    · rw [if_neg c] at hw' hl
      rw [if_neg c, if_neg c]
      have hw2 : WfD { s with ops := wr64 (s.ops + 1), arms := ar, cnt := 0 } := by
        refine ⟨hw.pos, hw.top, hw.line, ?_, ?_, ?_⟩
        · have := hw.arms; rw [e] at this; simp at this ⊢; omega
        · intro x hx; exact hw.after x (by rw [e]; exact List.mem_cons_of_mem _ hx)
        · intro x hx; exact hw.keeps x (by rw [e]; exact List.mem_cons_of_mem _ hx)
      exact .inr ⟨rfl, rfl, hw', goes_cln hw2, goes_poss hw2 h, hl⟩
/-- What holds behind a store that went well, seen from before. -/
def Went (X : Nat → List Nat → Prop) (p m : Nat) (s s2 : DevS) : Prop := s2.off = false ∧ WfD s2 ∧ Poss X s2 ∧ s2.ls.length = s.ls.length ∧ ∀ q : Nat, (q + 1) * 64 ≤ p ∨ p + m ≤ q * 64 → s2.ls[q]? = s.ls[q]?
end Go.Vl

set_option linter.unusedVariables false
set_option linter.unusedSimpArgs false
namespace Go.Vl
open Go Go.Proofs
theorem done_room {r : Nat} {s : DevS} (hw : WfD s) (h : Room r s) : Room r (doneS s) := by
  rcases done_loss (X := fun _ _ => True) hw (fun _ _ _ _ _ => trivial) with ⟨_, h2, _⟩ | ⟨_, h1, h2, h3, _, h5⟩
  · unfold Room; rw [h2]; exact h
  · intro l hl
    have hp := hw.pos
    have h0 := h _ (List.getElem_mem hp)
    have h4 := List.length_pos_iff.2 (hw.line _ (List.getElem_mem hp)).ne
    have := h3 l hl
    omega
theorem storeF_room : ∀ (m : Nat) {p r : Nat} {b : List Nat} {s : DevS}, b.length = m → WfD s → (∀ x ∈ b, x < 256) → Room (r + m) s → Room r (storeF b.length p b s).2 ∧ WfD (storeF b.length p b s).2 := by
  intro m
  induction m using Nat.strongRecOn with
  | _ m ih =>
    intro p r b s hm hw hb hroom
    by_cases h0 : b = []
    · subst h0
      rw [storeF_nil]
      exact ⟨room_le hroom (by omega), hw⟩
    · have hpos : 0 < b.length := List.length_pos_iff.2 h0
      have hr1 : Room 1 s := room_le hroom (by omega)
      have hwL := layS_wf (at_ := p - p % 8) hw hr1 (stW_nm (p := p) (s := s) hb)
      have hroom2 : Room (r + (m - min m (8 - p % 8))) (layS (p - p % 8) (nm (stW p b s)) s) := fun l hl => by
        have := onLine_room (r := r + m - 1) (f := layL ((p - p % 8) % 64 / 8) (nm (stW p b s))) (i := (p - p % 8) / 64) (fun l hl => by have := hroom l hl; omega) (fun l => by simp [layL]) l hl
        omega
      have hk : (b.drop (8 - p % 8)).length = m - min m (8 - p % 8) := by rw [List.length_drop]; omega
      rw [storeF_step h0]
      split
      · exact ⟨room_le (done_room hwL hroom2) (by omega), doneS_wf hwL⟩
      · exact ih (m - min m (8 - p % 8)) (by omega) hk (doneS_wf hwL) (fun x hx => hb x (List.mem_of_mem_drop hx)) (done_room hwL hroom2)
theorem fence_wf {s : DevS} (hw : WfD s) : WfD (fenceS s) := ⟨by simp [fenceS]; exact hw.pos, by simp [fenceS]; exact hw.top, fun l hl => by
  simp only [fenceS, List.mem_map] at hl
  obtain ⟨l0, h0, rfl⟩ := hl
  exact fenceL_wf (hw.line l0 h0), hw.arms, hw.after, hw.keeps⟩
/-- Steps, one behind the other. -/
def fmtF : List (Nat × List Nat) → DevS → Int × DevS
  | [], s => (0, s)
  | t :: l, s => if (bytesP (t.1 : Int) t.2 s).1 ≠ 0 then bytesP (t.1 : Int) t.2 s else fmtF l (bytesP (t.1 : Int) t.2 s).2
def fst4 (n : Nat) : List (Nat × List Nat) := [(0, (List.replicate 64 0)), (64, (List.replicate 64 0)), (128, (List.replicate 64 0)), (0, sbB [n, 128, 32768, 32896, (n - 32896) / 256, 0])]
def stC (l : List (Nat × List Nat)) : List Value := l.flatMap fun t => .int .i64 (t.1 : Int) :: bys t.2
/-- What Format answers, and the device behind it. -/
def fmA (n : Nat) (s : DevS) : List Int × Int := if (fmtF (fst4 n) s).1 ≠ 0 then ([0, 0, 0, 0, 0], (fmtF (fst4 n) s).1) else ([(n : Int), ((128 : Nat) : Int), ((32768 : Nat) : Int), ((32896 : Nat) : Int), (((n - 32896) / 256 : Nat) : Int)], 0)
attribute [local irreducible] crk crL crc Sl pt ro mbs sbB planT Dev imgS
end Go.Vl

set_option linter.unusedVariables false
set_option linter.unusedSimpArgs false
namespace Go.Vl
open Go Go.Proofs
/-- A step's parts. -/
structure StA where
  k : Int
  q : Int
  n : Int
  v : Nat
  da : Option Addr
  dc : Nat
  d : List Nat
  ka : Option Addr
  kc : Nat
  kp : List Int
  aa : Option Addr
  ac : Nat
  kvs : List Value
  ars : List (Int × List Int)
def StA.cells (t : StA) : List Value := [.int .i64 t.k, .int .i64 t.q, .int .i64 t.n, .int .u64 ((t.v : Nat) : Int), .slice t.da t.d.length t.dc, .slice t.ka t.kp.length t.kc, .slice t.aa t.ars.length t.ac]
structure StAW (A : SP) (t : StA) : Prop where
  dcap : t.d.length ≤ t.dc
  drs : Rs A t.da (bys t.d)
  dby : ∀ x ∈ t.d, x < 256
  v : t.v < 18446744073709551616
  kcap : t.kp.length ≤ t.kc
  krs : Rs A t.ka (ints t.kp)
  kb : ∀ x ∈ t.kp, -9223372036854775808 ≤ x ∧ x ≤ 9223372036854775807
  acap : t.ars.length ≤ t.ac
  ars : RdA A t.aa t.kvs t.ars
  ab : ∀ x ∈ t.ars, (-9223372036854775808 ≤ x.1 ∧ x.1 ≤ 9223372036854775807) ∧ ∀ k ∈ x.2, -9223372036854775808 ≤ k ∧ k ≤ 9223372036854775807
  q : -9223372036854775808 ≤ t.q ∧ t.q ≤ 9223372036854775807
  n : -9223372036854775808 ≤ t.n ∧ t.n ≤ 9223372036854775807
def StA.asz (t : StA) : Nat := (t.ars.map fun x => x.2.length + 1).sum
def StA.sz (t : StA) : Nat := t.d.length + t.kp.length + t.asz + 1
theorem StA.cells_len (t : StA) : t.cells.length = 7 := rfl
theorem StAW.left {A X : SP} {t : StA} (h : StAW A t) : StAW (A * X) t := ⟨h.dcap, h.drs.left, h.dby, h.v, h.kcap, h.krs.left, h.kb, h.acap, h.ars.left, h.ab, h.q, h.n⟩
/-- One arm. -/
structure ArX where
  af : Int
  a : Option Addr
  c : Nat
  kp : List Int
def ArX.cells (x : ArX) : List Value := [.int .i64 x.af, .slice x.a x.kp.length x.c]
theorem two_of {α : Type} : ∀ {l : List α}, l.length = 2 → ∃ a b, l = [a, b]
  | [a, b], _ => ⟨a, b, rfl⟩
theorem three_of {α : Type} : ∀ {l : List α}, l.length = 3 → ∃ a b c, l = [a, b, c]
  | [a, b, c], _ => ⟨a, b, c, rfl⟩
set_option maxRecDepth 20000 in
theorem rdu_arm (W : World) : Rdu Try.prog W 72 (fun cs (x : ArX) => cs = x.cells ∧ x.kp.length ≤ x.c ∧ Rs (old W) x.a (ints x.kp) ∧ (-9223372036854775808 ≤ x.af ∧ x.af ≤ 9223372036854775807) ∧ ∀ k ∈ x.kp, -9223372036854775808 ≤ k ∧ k ≤ 9223372036854775807) (fun x => x.kp.length + 1) := fun H enc sp hd fu cs d pl h => by
  obtain ⟨hl, Ds, hD, hs, hf⟩ := rdu_fields Try.underlying72 h
  have hc : Try.prog.cellsOf 72 = 2 := by kernel_rfl
  have hci : Try.prog.cellsOf 3 = 1 := by kernel_rfl
  have hck : Try.prog.cellsOf 37 = 1 := by kernel_rfl
  rw [hc] at hl
  obtain ⟨af, D0, _, ⟨e0, w0⟩, _⟩ := hf 0 _ rfl (rdu_int Try.underlying3)
  obtain ⟨kp, D1, h1, ⟨ka, kc, e1, g1, r1, l1⟩, s1⟩ := hf 1 _ rfl (rdu_ints Try.underlying37 Try.underlying3 (by kernel_rfl))
  obtain ⟨d0, d1, rfl⟩ := two_of (show Ds.length = 2 from hD)
  obtain ⟨c0, c1, rfl⟩ := two_of hl
  simp only [List.getElem?_cons_succ, List.getElem?_cons_zero, Option.some.injEq] at h1
  subst h1
  simp only [ubs_cons, ubs_nil] at hs
  simp [hci] at e0
  simp [hck] at e1
  subst e0 e1
  exact ⟨⟨af, ka, kc, kp⟩, ⟨rfl, g1, r1, i64_wf w0, l1⟩, by simp only []; omega⟩
theorem acs_map : ∀ (xs : List ArX), acs (xs.map fun x => .slice x.a x.kp.length x.c) (xs.map fun x => (x.af, x.kp)) = xs.flatMap ArX.cells
  | [] => rfl
  | x :: xs => by
    simp only [List.map_cons, List.flatMap_cons]
    show _ :: _ :: acs _ _ = _
    rw [acs_map xs]; rfl
def PArms (A : SP) (cs : List Value) (p : List Value × List (Int × List Int)) : Prop := ∃ a c, cs = [.slice a p.2.length c] ∧ p.2.length ≤ c ∧ RdA A a p.1 p.2 ∧ ∀ x ∈ p.2, (-9223372036854775808 ≤ x.1 ∧ x.1 ≤ 9223372036854775807) ∧ ∀ k ∈ x.2, -9223372036854775808 ≤ k ∧ k ≤ 9223372036854775807
theorem rdu_arms (W : World) : Rdu Try.prog W 74 (PArms (old W)) (fun p => (p.2.map fun x => x.2.length + 1).sum + 1) :=
  (rdu_slice (k := 2) Try.underlying74 (by kernel_rfl) (by decide) (rdu_arm W)).mono fun cs xs ⟨a, cap, Cs, e1, hc, hl, hx, hr⟩ => by
    have e2 : Cs.flatten = xs.flatMap ArX.cells := flatF' hl fun i h h' => (hx i h h').2.1
    refine ⟨(xs.map fun x => .slice x.a x.kp.length x.c, xs.map fun x => (x.af, x.kp)), ⟨a, cap, by simpa using e1, by simpa using hc, ⟨?_, by simp, fun i hi => ?_⟩, fun x hx' => ?_⟩, ?_⟩
    · rw [acs_map, ← e2]; exact hr
    · have hi' : i < xs.length := by simpa using hi
      have := (hx i hi' (by omega)).2
      exact ⟨xs[i].a, xs[i].c, by simp [hi'], by simpa using this.2.1, by simpa using this.2.2.1⟩
    · obtain ⟨y, hy, rfl⟩ := List.mem_map.1 hx'
      obtain ⟨i, hi, rfl⟩ := List.mem_iff_getElem.1 hy
      have := (hx i hi (by omega)).2
      exact ⟨this.2.2.2.1, this.2.2.2.2⟩
    · simp only [szL, List.map_map]
      exact Nat.le_of_eq rfl
theorem seven_of {α : Type} : ∀ {l : List α}, l.length = 7 → ∃ a b c d e f g, l = [a, b, c, d, e, f, g]
  | [a, b, c, d, e, f, g], _ => ⟨a, b, c, d, e, f, g, rfl⟩
set_option maxRecDepth 20000 in
theorem rdu_stepA (W : World) : Rdu Try.prog W 76 (fun cs (t : StA) => cs = t.cells ∧ StAW (old W) t) StA.sz := fun H enc sp hd fu cs d pl h => by
  obtain ⟨hl, Ds, hD, hs, hf⟩ := rdu_fields Try.underlying76 h
  have hc : Try.prog.cellsOf 76 = 7 := by kernel_rfl
  have hci : Try.prog.cellsOf 3 = 1 := by kernel_rfl
  have hcu : Try.prog.cellsOf 53 = 1 := by kernel_rfl
  have hcb : Try.prog.cellsOf 28 = 1 := by kernel_rfl
  have hck : Try.prog.cellsOf 37 = 1 := by kernel_rfl
  have hca : Try.prog.cellsOf 74 = 1 := by kernel_rfl
  rw [hc] at hl
  obtain ⟨k, D0, _, ⟨e0, _⟩, _⟩ := hf 0 _ rfl (rdu_int Try.underlying3)
  obtain ⟨q, D1, _, ⟨e1, w1⟩, _⟩ := hf 1 _ rfl (rdu_int Try.underlying3)
  obtain ⟨n, D2, _, ⟨e2, w2⟩, _⟩ := hf 2 _ rfl (rdu_int Try.underlying3)
  obtain ⟨v, D3, _, ⟨e3, w3⟩, _⟩ := hf 3 _ rfl (rdu_int Try.underlying53)
  obtain ⟨b, D4, h4, ⟨a4, c4, e4, g4, r4, l4⟩, s4⟩ := hf 4 _ rfl (rdu_bys Try.underlying28 Try.underlying5 (by kernel_rfl))
  obtain ⟨kp, D5, h5, ⟨a5, c5, e5, g5, r5, l5⟩, s5⟩ := hf 5 _ rfl (rdu_ints Try.underlying37 Try.underlying3 (by kernel_rfl))
  obtain ⟨ar, D6, h6, ⟨a6, c6, e6, g6, r6, l6⟩, s6⟩ := hf 6 _ rfl (rdu_arms W)
  obtain ⟨m, rfl, hm⟩ := u64_wf' w3
  obtain ⟨d0, d1, d2, d3, d4, d5, d6, rfl⟩ := seven_of (show Ds.length = 7 from hD)
  obtain ⟨c0, c1, c2, c3, c4', c5', c6', rfl⟩ := seven_of hl
  simp only [List.getElem?_cons_succ, List.getElem?_cons_zero, Option.some.injEq] at h4 h5 h6
  subst h4 h5 h6
  simp only [ubs_cons, ubs_nil] at hs
  simp [hci] at e0 e1 e2
  simp [hcu] at e3
  simp [hcb] at e4
  simp [hck] at e5
  simp [hca] at e6
  subst e0 e1 e2 e3 e4 e5 e6
  exact ⟨⟨k, q, n, m, a4, c4, b, a5, c5, kp, a6, c6, ar.1, ar.2⟩, ⟨rfl, ⟨g4, r4, l4, hm, g5, r5, l5, g6, r6, l6, i64_wf w1, i64_wf w2⟩⟩, by unfold StA.sz StA.asz; simp only []; omega⟩
def acsA (l : List StA) : List Value := l.flatMap StA.cells
def PStA (A : SP) (cs : List Value) (ts : List StA) : Prop := ∃ a cap, cs = [.slice a ts.length cap] ∧ ts.length ≤ cap ∧ Rs A a (acsA ts) ∧ ∀ t ∈ ts, StAW A t
theorem rdu_stepsA (W : World) : Rdu Try.prog W 36 (PStA (old W)) (fun ts => (ts.map StA.sz).sum + 1) :=
  (rdu_slice (k := 7) Try.underlying36 (by kernel_rfl) (by decide) (rdu_stepA W)).mono fun cs ts ⟨a, cap, Cs, e1, hc, hl, hx, hr⟩ => by
    refine ⟨ts, ⟨a, cap, e1, hc, ?_, fun t ht => ?_⟩, Nat.le_of_eq rfl⟩
    · rw [show acsA ts = Cs.flatten from (flatF' hl (fun i h h' => (hx i h h').2.1)).symm]; exact hr
    · obtain ⟨i, hi, rfl⟩ := List.mem_iff_getElem.1 ht
      exact (hx i hi (by omega)).2.2
/-- A life. -/
structure LfA where
  size : Int
  ia : Option Addr
  ic : Nat
  im : List Nat
  sa : Option Addr
  sc : Nat
  ts : List StA
def LfA.cells (t : LfA) : List Value := [.int .i64 t.size, .slice t.ia t.im.length t.ic, .slice t.sa t.ts.length t.sc]
structure LfAW (A : SP) (t : LfA) : Prop where
  size : -9223372036854775808 ≤ t.size ∧ t.size ≤ 9223372036854775807
  icap : t.im.length ≤ t.ic
  irs : Rs A t.ia (bys t.im)
  iby : ∀ x ∈ t.im, x < 256
  scap : t.ts.length ≤ t.sc
  srs : Rs A t.sa (acsA t.ts)
  st : ∀ x ∈ t.ts, StAW A x
def LfA.sz (t : LfA) : Nat := t.im.length + (t.ts.map StA.sz).sum
set_option maxRecDepth 20000 in
theorem rdu_life (W : World) : Rdu Try.prog W 82 (fun cs (t : LfA) => cs = t.cells ∧ LfAW (old W) t) LfA.sz := fun H enc sp hd fu cs d pl h => by
  obtain ⟨hl, Ds, hD, hs, hf⟩ := rdu_fields Try.underlying82 h
  have hc : Try.prog.cellsOf 82 = 3 := by kernel_rfl
  have hci : Try.prog.cellsOf 3 = 1 := by kernel_rfl
  have hcb : Try.prog.cellsOf 28 = 1 := by kernel_rfl
  have hcs : Try.prog.cellsOf 36 = 1 := by kernel_rfl
  rw [hc] at hl
  obtain ⟨sz, D0, _, ⟨e0, w0⟩, _⟩ := hf 0 _ rfl (rdu_int Try.underlying3)
  obtain ⟨im, D1, h1, ⟨a1, c1, e1, g1, r1, l1⟩, s1⟩ := hf 1 _ rfl (rdu_bys Try.underlying28 Try.underlying5 (by kernel_rfl))
  obtain ⟨ts, D2, h2, ⟨a2, c2, e2, g2, r2, l2⟩, s2⟩ := hf 2 _ rfl (rdu_stepsA W)
  obtain ⟨d0, d1, d2, rfl⟩ := three_of (show Ds.length = 3 from hD)
  obtain ⟨k0, k1, k2, rfl⟩ := three_of hl
  simp only [List.getElem?_cons_succ, List.getElem?_cons_zero, Option.some.injEq] at h1 h2
  subst h1 h2
  simp only [ubs_cons, ubs_nil] at hs
  simp [hci] at e0
  simp [hcb] at e1
  simp [hcs] at e2
  subst e0 e1 e2
  exact ⟨⟨sz, a1, c1, im, a2, c2, ts⟩, ⟨rfl, ⟨i64_wf w0, g1, r1, l1, g2, r2, l2⟩⟩, by unfold LfA.sz; simp only []; omega⟩
end Go.Vl

set_option linter.unusedVariables false
set_option linter.unusedSimpArgs false
namespace Go.Vl
open Go Go.Proofs
def ArX.pr (x : ArX) : Int × List Int := (x.af, x.kp)
def tlA (n : Nat) : List ArX := (List.range n).map fun (j : Nat) => ⟨77 + (j : Int), none, 0, []⟩
theorem tlA_len (n : Nat) : (tlA n).length = n := by simp [tlA]
theorem tlA_succ (n : Nat) : tlA (n + 1) = tlA n ++ [⟨77 + (n : Int), none, 0, []⟩] := by simp [tlA, List.range_succ]
def ownA (x : ArX) : SP := Sl 1 (.slice x.a (x.kp.length + 9) (x.kp.length + 9)) (x.kp.length + 9) (ints (x.kp ++ spi x.kp.length))
/-- Arms with room behind them, and behind the lists within. -/
def ArO (a : Option Addr) (c m : Nat) (xs : List ArX) : SP := Sl 2 (.slice a (m + 4) c) (m + 4) ((xs ++ tlA 4).flatMap ArX.cells) * Bs ownA xs
structure ArW (xs : List ArX) (ars : List (Int × List Int)) : Prop where
  mp : xs.map ArX.pr = ars
  cp : ∀ x ∈ xs, x.c = x.kp.length + 9
theorem arx_len (x : ArX) : x.cells.length = 2 := rfl
theorem ArW.len {xs : List ArX} {ars : List (Int × List Int)} (h : ArW xs ars) : xs.length = ars.length := by rw [← h.mp, List.length_map]
theorem rs_own {A : SP} {xs : List ArX} {i : Nat} (hi : i < xs.length) : Rs (A * Bs ownA xs) xs[i].a (ints (xs[i].kp ++ spi xs[i].kp.length)) := by
  obtain ⟨R, h, _⟩ := bs_get (f := ownA) hi
  rw [h, ← star_assoc]
  exact rs_sl
theorem arO_rd {A : SP} {a : Option Addr} {c m : Nat} {xs : List ArX} {ars : List (Int × List Int)} (h : ArW xs ars) (hm : ars.length = m) : RdA (A * ArO a c m xs) a (xs.map fun x => .slice x.a x.kp.length x.c) ars := by
  have hl := h.len
  refine ⟨?_, by simp [hl], fun i hi => ?_⟩
  · have e : acs (xs.map fun x => .slice x.a x.kp.length x.c) ars = xs.flatMap ArX.cells := by rw [← acs_map, ← h.mp]; rfl
    rw [e]
    have h1 : Rs (A * ArO a c m xs) a ((xs ++ tlA 4).flatMap ArX.cells) := by
      unfold ArO
      rw [← star_assoc]
      exact rs_sl.left
    have h2 := h1.sub (xs.length * 2)
    rw [fm_take (f := ArX.cells) (k := 2) (fun x _ => arx_len x), List.take_left] at h2
    exact h2
  · have hx : i < xs.length := by omega
    have e : ars[i] = (xs[i].af, xs[i].kp) := by
      have := h.mp; subst this; simp [ArX.pr]
    refine ⟨xs[i].a, xs[i].c, by simp [hx, e], by rw [e, h.cp _ (List.getElem_mem hx)]; simp, ?_⟩
    rw [e]
    have h1 : Rs (A * ArO a c m xs) xs[i].a (ints (xs[i].kp ++ spi xs[i].kp.length)) := by
      unfold ArO
      rw [← star_assoc]
      exact rs_own hx
    exact rs_preI h1
theorem cut_noneK {a : Option Addr} {c k : Nat} : cutAddr a c 0 k = a := by
  unfold cutAddr
  cases a <;> simp [Addr.add]
theorem map_pr_snoc {xs : List ArX} {ars : List (Int × List Int)} {i : Nat} {x : ArX} (h : xs.map ArX.pr = ars.take i) (hi : i < ars.length) (e : x.pr = ars[i]) : (xs ++ [x]).map ArX.pr = ars.take (i + 1) := by
  rw [List.map_append, h, List.take_succ_eq_append_getElem hi, ← e]; rfl
theorem cp_snoc {xs : List ArX} {x : ArX} (h : ∀ x ∈ xs, x.c = x.kp.length + 9) (e : x.c = x.kp.length + 9) : ∀ y ∈ xs ++ [x], y.c = y.kp.length + 9 := fun y hy => by
  rcases List.mem_append.1 hy with h1 | h1
  · exact h y h1
  · rw [List.mem_singleton.1 h1]; exact e
attribute [local irreducible] Sl pt ro
set_option maxRecDepth 20000 in
set_option maxHeartbeats 1000000 in
theorem arms_c {A : SP} {a : Option Addr} {c m : Nat} {kvs : List Value} {ars : List (Int × List Int)} (hr : RdA A a kvs ars) (hm : ars.length = m := by first | assumption | rfl) (hl : m ≤ 1099511627776 := by omega) (hk : ∀ x ∈ ars, (-9223372036854775808 ≤ x.1 ∧ x.1 ≤ 9223372036854775807) ∧ x.2.length ≤ 1099511627776 ∧ ∀ k ∈ x.2, k ≤ 9223372036854775807) :
    Fn Try.prog 111 #[.slice a m c] (A) (fun v B => ∃ a c xs, v = .slice a m c ∧ ArW xs ars ∧ m + 4 ≤ c ∧ B = A * ArO a c m xs) := by
  refine fn_enterW (args := [.slice a m c]) Try.func111 rfl Try.ntmps111 (by simp) ?_
  have hrr : Rs A a (acs kvs ars) := hr.rd
  have hrl := acs_length hr.len
  refine tc_pre (A' := A * Sl 2 (.slice none 0 0) 0 [] * Bs ownA []) (fun _ _ h => by rw [bs_nil, star_emp]; exact sl_nil h) ?_; refine sr ?_; refine tla ?_; refine nq ?_; refine sr ?_; refine tla ?_; refine nq ?_; refine tc_seq ?_; refine sr ?_; refine tla ?_; refine nq ?_; refine tc_block ?_; refine tc_loop (fun kk ρ BB => ∃ (i : Nat) (a3 : Option Addr) (c3 : Nat) (xs : List ArX), (i ≤ m) ∧ (xs.map ArX.pr = ars.take i) ∧ (∀ x ∈ xs, x.c = x.kp.length + 9) ∧ kk = m - i ∧ ρ 3 = .slice a3 i c3 ∧ ρ 4 = .int .i64 (i : Nat) ∧ ρ 0 = .slice a m c ∧ BB = A * Sl 2 (.slice a3 i c3) i (xs.flatMap ArX.cells) * Bs ownA xs) (m := m - (0)) ?_ ?_
  · exact ⟨0, none, 0, [], by omega, rfl, fun x hx => by simp at hx, rfl, rfl, rfl, rfl, rfl⟩
  · intro k ρ B hI
    obtain ⟨i, a3, c3, xs, hp0, hp1, hp2, hkk1, hE3, hE4, hE0, rfl⟩ := hI
    refine tc_env (d := 3) hE3 ?_; refine tc_env (d := 4) hE4 ?_; refine tc_env (d := 0) hE0 ?_
    clear hE3 hE4 hE0
    refine tc_seq ?_; refine sr ?_; refine tlm ?_; refine tlm ?_; refine tv (o_len Try.underlying74 rfl) ?_; refine tv (o_lss rfl rfl) ?_; refine nq ?_; refine tc_cond rfl (fun h => ?_) (fun h => ?_)
    · have hi : i < ars.length := by simp at h; omega
      obtain ⟨kb, kc, hkv, hkc, hkr⟩ := hr.keep i hi
      have g0 := acs_at0 hr.len hi
      have g1 := acs_at1 hr.len hi
      have hkv2 : kvs[i]'(by rw [hr.len]; exact hi) = .slice kb ars[i].2.length kc := by rw [List.getElem?_eq_getElem (by rw [hr.len]; exact hi)] at hkv; exact Option.some.inj hkv
      rw [hkv2] at g1
      have hke := hk _ (List.getElem_mem hi)
      refine tc_skip ?_; refine q_then_n ?_; refine tc_seq ?_; refine tc_block ?_; refine tc_regh (S := A * Bs ownA xs) mo (by repeat (first | with_reducible exact dr_refl | apply dr_keep | apply dr_drop)) ?_
      show TH _ _ _ _ _ 16 #[ff,ff,ff,ff,ff,ff,ff,ff,ff,ff,ff,ff,ff,ff,ff,ff] _ _
      refine th_take (i := 0) (listed' := #[tt,ff,ff,ff,ff,ff,ff,ff,ff,ff,ff,ff,ff,ff,ff,ff]) rfl (by kernel_rfl) (by kernel_rfl) (by kernel_rfl) rfl rfl (o_move (by conv => lhs; whnf)) ?_; refine th_take (i := 1) (listed' := #[tt,tt,ff,ff,ff,ff,ff,ff,ff,ff,ff,ff,ff,ff,ff,ff]) rfl (by kernel_rfl) (by kernel_rfl) (by kernel_rfl) rfl rfl (o_move (by conv => lhs; whnf)) ?_; refine th_take (i := 2) (listed' := #[tt,tt,tt,ff,ff,ff,ff,ff,ff,ff,ff,ff,ff,ff,ff,ff]) rfl (by kernel_rfl) (by kernel_rfl) (by kernel_rfl) rfl rfl (o_move (by conv => lhs; whnf)) ?_; refine th_take (i := 3) (listed' := #[tt,tt,tt,tt,ff,ff,ff,ff,ff,ff,ff,ff,ff,ff,ff,ff]) rfl (by kernel_rfl) (by kernel_rfl) (by kernel_rfl) rfl rfl (o_ixP Try.underlying74 sz72 rfl rfl (by first | omega | (simp only [bys_length, ints_length, wds_length, bos_length, List.length_append, List.length_take, List.length_drop, List.length_singleton]; omega)) (by repeat (first | exact nn_some | with_reducible exact nn_sl (by decide) | exact nn_rs (by assumption) (fun _ => by first | omega | (simp only [bys_length, ints_length, wds_length, bos_length, List.length_append, List.length_take, List.length_drop, List.length_singleton]; omega)) | apply Nn.left))) ?_; refine th_take (i := 4) (listed' := #[tt,tt,tt,tt,tt,ff,ff,ff,ff,ff,ff,ff,ff,ff,ff,ff]) rfl (by kernel_rfl) (by kernel_rfl) (by kernel_rfl) rfl rfl (o_faP (m := 0) (o := 0) Try.underlying72 rfl rfl sz3 rfl (by repeat (first | exact nn_some | with_reducible exact nn_sl (by decide) | exact nn_rs (by assumption) (fun _ => by first | omega | (simp only [bys_length, ints_length, wds_length, bos_length, List.length_append, List.length_take, List.length_drop, List.length_singleton]; omega)) | apply Nn.left))) ?_
      refine th_take (i := 5) (listed' := #[tt,tt,tt,tt,tt,tt,ff,ff,ff,ff,ff,ff,ff,ff,ff,ff]) rfl (by kernel_rfl) (by kernel_rfl) (by kernel_rfl) rfl rfl (o_ldP p3 rfl (by repeat (first | assumption | with_reducible exact rs_sl | with_reducible exact rs_pt0 | exact rs_none | apply Rs.left)) (by first | assumption | exact bys_at (by omega) | exact ints_at (by omega) | exact wds_at (by omega) | exact bos_at (by omega) | rfl)) ?_; refine th_take (i := 6) (listed' := #[tt,tt,tt,tt,tt,tt,tt,ff,ff,ff,ff,ff,ff,ff,ff,ff]) rfl (by kernel_rfl) (by kernel_rfl) (by kernel_rfl) rfl rfl (o_move (by conv => lhs; whnf)) ?_; refine th_take (i := 7) (listed' := #[tt,tt,tt,tt,tt,tt,tt,tt,ff,ff,ff,ff,ff,ff,ff,ff]) rfl (by kernel_rfl) (by kernel_rfl) (by kernel_rfl) rfl rfl (o_move (by conv => lhs; whnf)) ?_; refine th_take (i := 8) (listed' := #[tt,tt,tt,tt,tt,tt,tt,tt,tt,ff,ff,ff,ff,ff,ff,ff]) rfl (by kernel_rfl) (by kernel_rfl) (by kernel_rfl) rfl rfl (o_ixP Try.underlying74 sz72 rfl rfl (by first | omega | (simp only [bys_length, ints_length, wds_length, bos_length, List.length_append, List.length_take, List.length_drop, List.length_singleton]; omega)) (by repeat (first | exact nn_some | with_reducible exact nn_sl (by decide) | exact nn_rs (by assumption) (fun _ => by first | omega | (simp only [bys_length, ints_length, wds_length, bos_length, List.length_append, List.length_take, List.length_drop, List.length_singleton]; omega)) | apply Nn.left))) ?_; refine th_take (i := 9) (listed' := #[tt,tt,tt,tt,tt,tt,tt,tt,tt,tt,ff,ff,ff,ff,ff,ff]) rfl (by kernel_rfl) (by kernel_rfl) (by kernel_rfl) rfl rfl (o_faP (m := 0) (o := 1) Try.underlying72 rfl rfl sz37 rfl (by repeat (first | exact nn_some | with_reducible exact nn_sl (by decide) | exact nn_rs (by assumption) (fun _ => by first | omega | (simp only [bys_length, ints_length, wds_length, bos_length, List.length_append, List.length_take, List.length_drop, List.length_singleton]; omega)) | apply Nn.left))) ?_
      refine th_take (i := 10) (listed' := #[tt,tt,tt,tt,tt,tt,tt,tt,tt,tt,tt,ff,ff,ff,ff,ff]) rfl (by kernel_rfl) (by kernel_rfl) (by kernel_rfl) rfl rfl (o_ldP p37 rfl (by repeat (first | assumption | with_reducible exact rs_sl | with_reducible exact rs_pt0 | exact rs_none | apply Rs.left)) (by first | assumption | exact bys_at (by omega) | exact ints_at (by omega) | exact wds_at (by omega) | exact bos_at (by omega) | rfl)) ?_; refine th_one (i := 11) (by kernel_rfl) ?_; refine oh_c (i := 11) (listed' := #[tt,tt,tt,tt,tt,tt,tt,tt,tt,tt,tt,tt,ff,ff,ff,ff]) rfl rfl rfl (o_call bd113 rfl (SpareInts_c (xs := ars[i].2))) ?_; rintro _ _ ⟨a24, rfl, rfl⟩; refine ⟨by repeat (first | with_reducible exact dr_refl | apply dr_keep | apply dr_drop), ?_⟩; refine th_take (i := 12) (listed' := #[tt,tt,tt,tt,tt,tt,tt,tt,tt,tt,tt,tt,tt,ff,ff,ff]) rfl (by kernel_rfl) (by kernel_rfl) (by kernel_rfl) rfl rfl (o_bS (l := [_, _]) (pv_cons (by conv => lhs; whnf) (pv_cons (by conv => lhs; whnf) pv_nil)) Try.underlying72 z72 (pl72 Try.underlying72) rfl) ?_; refine th_one (i := 13) (by kernel_rfl) ?_; refine oh_x (i := 13) (listed' := #[tt,tt,tt,tt,tt,tt,tt,tt,tt,tt,tt,tt,tt,tt,ff,ff]) rfl rfl rfl (o_buildSliceK Try.underlying74 sz72 z72 rfl (by first | rfl | simp) (by decide)) ?_; rintro _ _ ⟨b26, rfl, rfl⟩; refine ⟨by repeat (first | with_reducible exact dr_refl | apply dr_keep | apply dr_drop), ?_⟩; refine th_one (i := 14) (by kernel_rfl) ?_; refine oh_x (i := 14) (listed' := #[tt,tt,tt,tt,tt,tt,tt,tt,tt,tt,tt,tt,tt,tt,tt,ff]) rfl rfl rfl (o_apB Try.underlying74 Try.underlying74 sz72 by72 z72 rfl (by decide) (by decide) rfl rfl rfl (by repeat (first | with_reducible exact ct_here | apply ct_left)) rfl rfl (by omega) (fm_sn xs ((⟨ars[i].1, a24, ars[i].2.length + 9, ars[i].2⟩ : ArX)))) ?_
      rintro _ _ ⟨a27, c27, rfl, hc27, rfl⟩; refine ⟨by repeat (first | with_reducible exact dr_refl | apply dr_keep | apply dr_drop), ?_⟩; refine th_take (i := 15) (listed' := #[tt,tt,tt,tt,tt,tt,tt,tt,tt,tt,tt,tt,tt,tt,tt,tt]) rfl (by kernel_rfl) (by kernel_rfl) (by kernel_rfl) rfl rfl (o_assign (by conv => lhs; whnf)) ?_; refine th_done (by kernel_rfl) ?_; refine q_block_n (q_then_n ?_)
      have hnext : A * Sl 2 (.slice a27 (i + 1) c27) (i + 1) ((xs ++ [(⟨ars[i].1, a24, ars[i].2.length + 9, ars[i].2⟩ : ArX)]).flatMap ArX.cells) * Bs ownA (xs ++ [(⟨ars[i].1, a24, ars[i].2.length + 9, ars[i].2⟩ : ArX)]) = A * Sl 2 (.slice a27 (i + 1) c27) (i + 1) ((xs ++ [(⟨ars[i].1, a24, ars[i].2.length + 9, ars[i].2⟩ : ArX)]).flatMap ArX.cells) * Bs ownA xs * Sl 1 (.slice a24 (ars[i].2.length + 9) (ars[i].2.length + 9)) (ars[i].2.length + 9) (ints (ars[i].2 ++ spi ars[i].2.length)) := by rw [bs_snoc, ← star_assoc]; rfl
      refine tc_reg ?_; refine tlm ?_; refine tv (by first | exact o_addI rfl rfl (by omega) | exact o_add rfl rfl) ?_; refine tla ?_; refine nq ?_; exact ⟨_, by omega, i + 1, a27, c27, xs ++ [(⟨ars[i].1, a24, ars[i].2.length + 9, ars[i].2⟩ : ArX)], by omega, map_pr_snoc hp1 hi rfl, cp_snoc hp2 rfl, rfl, rfl, rfl, rfl, hnext.symm⟩
    · obtain rfl : i = m := by simp at h; omega
      rw [List.take_of_length_le (by omega)] at hp1
      refine tc_exit ?_; refine q_then_e (q_then_e (q_block_x (q_then_n ?_))); refine sr ?_; refine tlm ?_; refine tv (o_len Try.underlying74 rfl) ?_; refine tla ?_; refine nq ?_; refine tc_seq ?_; refine sr ?_; refine tla ?_; refine nq ?_; refine tc_block ?_; refine tc_loop (fun kk ρ BB => ∃ (j : Nat) (a4 : Option Addr) (c4 : Nat), (j ≤ 4) ∧ kk = 4 - j ∧ ρ 3 = .slice a4 (i + j) c4 ∧ ρ 6 = .int .i64 (j : Nat) ∧ ρ 5 = .int .i64 (i : Nat) ∧ BB = A * Sl 2 (.slice a4 (i + j) c4) (i + j) ((xs ++ tlA j).flatMap ArX.cells) * Bs ownA xs) (m := 4 - (0)) ?_ ?_
      · exact ⟨0, a3, c3, by omega, rfl, rfl, rfl, rfl, by show _ = A * Sl 2 (.slice a3 i c3) i ((xs ++ []).flatMap ArX.cells) * Bs ownA xs; rw [List.append_nil]⟩
      · intro k ρ B hI
        obtain ⟨j, a4, c4, hq0, hkk2, hE3, hE6, hE5, rfl⟩ := hI
        refine tc_env (d := 3) hE3 ?_; refine tc_env (d := 6) hE6 ?_; refine tc_env (d := 5) hE5 ?_
        clear hE3 hE6 hE5
        refine tc_seq ?_; refine sr ?_; refine tlm ?_; refine tv (o_lss rfl rfl) ?_; refine nq ?_; refine tc_cond rfl (fun h => ?_) (fun h => ?_)
        · try simp only [lv1, lv2, lv3, lv4, lv5, lv6, Bool.not_true, Bool.not_false] at h
          refine tc_skip ?_; refine q_then_n ?_; refine tc_seq ?_; refine tc_block ?_; refine tc_reg ?_; refine tlm ?_; refine tlm ?_; refine tv (by first | exact o_addI rfl rfl (by omega) | exact o_add rfl rfl) ?_; refine tv (o_bS (l := [_, _]) (pv_cons (by conv => lhs; whnf) pv_nil) Try.underlying72 z72 (pl72 Try.underlying72) rfl) ?_; refine tl_x rfl (o_buildSliceK Try.underlying74 sz72 z72 rfl (by first | rfl | simp) (by decide)) ?_; rintro _ _ ⟨b38, rfl, rfl⟩; refine tl_x rfl (o_apB Try.underlying74 Try.underlying74 sz72 by72 z72 rfl (by decide) (by decide) rfl rfl rfl (by repeat (first | with_reducible exact ct_here | apply ct_left)) rfl rfl (by omega) (show _ = (xs ++ tlA (j + 1)).flatMap ArX.cells by rw [tlA_succ, ← List.append_assoc]; exact fm_sn (f := ArX.cells) (xs ++ tlA j) ⟨77 + (j : Int), none, 0, []⟩)) ?_; rintro _ _ ⟨a39, c39, rfl, hc39, rfl⟩; refine tla ?_; refine tl_nil ?_; refine q_block_n (q_then_n ?_); refine tc_reg ?_; refine tlm ?_; refine tv (by first | exact o_addI rfl rfl (by omega) | exact o_add rfl rfl) ?_; refine tla ?_; refine nq ?_; exact ⟨_, by omega, j + 1, a39, c39, by omega, rfl, rfl, rfl, rfl, rfl⟩
        · obtain rfl : j = 4 := by simp at h; omega
          refine tc_have (fun _ _ h => sl_have (h.perm (star_swap _ _ _))) fun ⟨_, _, hv4, hc4, _, _⟩ => ?_
          simp only [Value.slice.injEq] at hv4
          obtain ⟨rfl, _, rfl⟩ := hv4
          refine tc_exit ?_; refine q_then_e (q_then_e (q_block_x (q_then_n ?_))); refine sr ?_; refine tlm ?_; refine tlm ?_; refine tv (o_slice (l := 0) (h := i) Try.underlying74 sz72 rfl bnd_none (bnd_nat rfl) (by omega) (by omega)) ?_; refine tl_env (d := 42) (v := .slice a4 i c4) (by show Value.slice (cutAddr _ _ 0 2) (i - 0) (c4 - 0) = _; rw [cut_noneK]; rfl) ?_; refine tla ?_; refine nq ?_; refine tc_ret ?_; exact ⟨.slice a4 i c4, A * ArO a4 c4 i xs, res1 rfl rfl, fun _ _ h => (by unfold ArO; rw [← star_assoc]; exact h.perm (by ac_rfl)), a4, c4, xs, rfl, ⟨hp1, hp2⟩, hc4, rfl⟩
theorem arx_at {zs : List ArX} {i j p : Nat} (hi : i < zs.length) (hj : j < 2) (hp : p = i * 2 + j) : (zs.flatMap ArX.cells)[p]? = zs[i].cells[j]? := fm_atj (f := ArX.cells) (fun x _ => arx_len x) hi hj hp
theorem arw_at {xs : List ArX} {ars : List (Int × List Int)} {i : Nat} (h : ArW xs ars) (hi : i < ars.length) : ∃ hx : i < xs.length, xs[i].af = ars[i].1 ∧ xs[i].kp = ars[i].2 ∧ xs[i].c = ars[i].2.length + 9 := by
  have hx : i < xs.length := by rw [h.len]; exact hi
  have e : ars[i] = (xs[i].af, xs[i].kp) := by
    have := h.mp; subst this; simp [ArX.pr]
  exact ⟨hx, by rw [e], by rw [e], by rw [h.cp _ (List.getElem_mem hx), e]⟩
theorem tlA_at {xs : List ArX} {m i : Nat} (hm : xs.length = m) (h : m ≤ i) (hi : i < (xs ++ tlA 4).length) : (xs ++ tlA 4)[i] = ⟨77 + (((i - m : Nat) : Int)), none, 0, []⟩ := by
  rw [List.getElem_append_right (by omega)]
  simp only [tlA, List.getElem_map, List.getElem_range]; subst hm; rfl
set_option maxRecDepth 20000 in
set_option maxHeartbeats 1000000 in
theorem armsKept_f (F : SP) {a a2 : Option Addr} {c c2 m : Nat} {xs : List ArX} {kvs : List Value} {ars : List (Int × List Int)} (hw : ArW xs ars) (hr : RdA F a2 kvs ars) (hm : ars.length = m) (hmc : m + 4 ≤ c) (hl : m ≤ 1099511627776) (hk : ∀ x ∈ ars, (-9223372036854775808 ≤ x.1 ∧ x.1 ≤ 9223372036854775807) ∧ x.2.length ≤ 1099511627776 ∧ ∀ k ∈ x.2, k ≤ 9223372036854775807) :
    Fn Try.prog 112 #[.slice a m c, .slice a2 m c2] (F * ArO a c m xs) (fun v B => v = .bool true ∧ B = F) := by
  refine fn_enterW (args := [.slice a m c, .slice a2 m c2]) Try.func112 rfl Try.ntmps112 (by simp) ?_
  have hrr : Rs F a2 (acs kvs ars) := hr.rd
  have hrl := acs_length hr.len
  have hxl := hw.len
  have hxt : (xs ++ tlA 4).length = m + 4 := by rw [List.length_append, tlA_len]; omega
  refine tc_eq (show _ = F * Sl 2 (.slice a (m + 4) c) (m + 4) ((xs ++ tlA 4).flatMap ArX.cells) * Bs ownA xs by unfold ArO; ac_rfl) ?_
  have hra : Rs (F * Sl 2 (.slice a (m + 4) c) (m + 4) ((xs ++ tlA 4).flatMap ArX.cells) * Bs ownA xs) a ((xs ++ tlA 4).flatMap ArX.cells) := rs_sl.left
  have hfl : ((xs ++ tlA 4).flatMap ArX.cells).length = (m + 4) * 2 := by rw [fm_length (fun x _ => arx_len x), hxt]
  refine sr ?_; refine tla ?_; refine nq ?_; refine sr ?_; refine tlm ?_; refine tlm ?_; refine tv (o_len Try.underlying74 rfl) ?_; refine tv (by first | exact o_addI rfl rfl (by omega) | exact o_add rfl rfl) ?_; refine tl_env (d := 12) (v := .int .i64 ((m + 4 : Nat) : Int)) (rfl) ?_; refine tv (o_slice (l := 0) (h := m + 4) Try.underlying74 sz72 rfl bnd_none (bnd_nat rfl) (by omega) (by omega)) ?_; refine tl_env (d := 13) (v := .slice a (m + 4) c) (by show Value.slice (cutAddr _ _ 0 2) (m + 4 - 0) (c - 0) = _; rw [cut_noneK]; rfl) ?_; refine tla ?_; refine nq ?_; refine tc_seq ?_; refine sr ?_; refine tla ?_; refine nq ?_; refine tc_block ?_; refine tc_loop (fun kk ρ BB => ∃ (i : Nat), (i ≤ m + 4) ∧ kk = m + 4 - i ∧ ρ 6 = .int .i64 (i : Nat) ∧ ρ 0 = .slice a m c ∧ ρ 1 = .slice a2 m c2 ∧ ρ 5 = .slice a (m + 4) c ∧ BB = F * Sl 2 (.slice a (m + 4) c) (m + 4) ((xs ++ tlA 4).flatMap ArX.cells) * Bs ownA xs) (m := m + 4 - (0)) ?_ ?_
  · exact ⟨0, by omega, rfl, rfl, rfl, rfl, rfl, rfl⟩
  · intro k ρ B hI
    obtain ⟨i, hp0, hkk1, hE6, hE0, hE1, hE5, rfl⟩ := hI
    refine tc_env (d := 6) hE6 ?_; refine tc_env (d := 0) hE0 ?_; refine tc_env (d := 1) hE1 ?_; refine tc_env (d := 5) hE5 ?_
    clear hE6 hE0 hE1 hE5
    refine tc_seq ?_; refine sr ?_; refine tlm ?_; refine tlm ?_; refine tv (o_len Try.underlying74 rfl) ?_; refine tv (o_lss rfl rfl) ?_; refine nq ?_; refine tc_cond rfl (fun h => ?_) (fun h => ?_)
    · have hi4 : i < (xs ++ tlA 4).length := by simp at h; omega
      refine tc_skip ?_; refine q_then_n ?_; refine tc_seq ?_; refine tc_block ?_; refine tc_seq ?_; refine tc_regq mo (by kernel_rfl) ?_; refine ql_v rfl (o_move (by conv => lhs; whnf)) ?_; refine ql_v rfl (o_move (by conv => lhs; whnf)) ?_; refine ql_v rfl (o_len Try.underlying74 rfl) ?_; refine ql_v rfl (o_lss rfl rfl) ?_; refine ql_v rfl (o_move (by conv => lhs; whnf)) ?_; refine ql_bool (d := 24) rfl (fun h => ?_) (fun h => ?_)
      · have hi : i < ars.length := by simp at h; omega
        obtain ⟨kb, kc, hkv, hkc, hkr⟩ := hr.keep i hi
        have g0 := acs_at0 hr.len hi
        have g1 := acs_at1 hr.len hi
        have hkv2 : kvs[i]'(by rw [hr.len]; exact hi) = .slice kb ars[i].2.length kc := by rw [List.getElem?_eq_getElem (by rw [hr.len]; exact hi)] at hkv; exact Option.some.inj hkv
        rw [hkv2] at g1
        have hke := hk _ (List.getElem_mem hi)
        obtain ⟨hix, x1, x2, x3⟩ := arw_at hw hi
        have hgx : (xs ++ tlA 4)[i] = xs[i] := List.getElem_append_left hix
        have g2 : ((xs ++ tlA 4).flatMap ArX.cells)[i * 2 + 0]? = some (.int .i64 ars[i].1) := by rw [arx_at hi4 (by decide) rfl, hgx, ← x1]; rfl
        have g3 : ((xs ++ tlA 4).flatMap ArX.cells)[i * 2 + 1]? = some (.slice xs[i].a ars[i].2.length (ars[i].2.length + 9)) := by rw [arx_at hi4 (by decide) rfl, hgx, ← x3, ← x2]; rfl
        have hro : Rs (F * Sl 2 (.slice a (m + 4) c) (m + 4) ((xs ++ tlA 4).flatMap ArX.cells) * Bs ownA xs) xs[i].a (ints (ars[i].2 ++ spi ars[i].2.length)) := by have := rs_own (A := F * Sl 2 (.slice a (m + 4) c) (m + 4) ((xs ++ tlA 4).flatMap ArX.cells)) hix; rw [x2] at this; exact this
        refine ql_v rfl (o_move (by conv => lhs; whnf)) ?_; refine ql_v rfl (o_move (by conv => lhs; whnf)) ?_; refine ql_v rfl (o_ixP Try.underlying74 sz72 rfl rfl (by first | omega | (simp only [bys_length, ints_length, wds_length, bos_length, List.length_append, List.length_take, List.length_drop, List.length_singleton]; omega)) (by repeat (first | exact nn_some | with_reducible exact nn_sl (by decide) | exact nn_rs (by assumption) (fun _ => by first | omega | (simp only [bys_length, ints_length, wds_length, bos_length, List.length_append, List.length_take, List.length_drop, List.length_singleton]; omega)) | apply Nn.left))) ?_; refine ql_v rfl (o_faP (m := 0) (o := 0) Try.underlying72 rfl rfl sz3 rfl (by repeat (first | exact nn_some | with_reducible exact nn_sl (by decide) | exact nn_rs (by assumption) (fun _ => by first | omega | (simp only [bys_length, ints_length, wds_length, bos_length, List.length_append, List.length_take, List.length_drop, List.length_singleton]; omega)) | apply Nn.left))) ?_; refine ql_v rfl (o_ldP p3 rfl (by repeat (first | assumption | with_reducible exact rs_sl | with_reducible exact rs_pt0 | exact rs_none | apply Rs.left)) (by first | assumption | exact bys_at (by omega) | exact ints_at (by omega) | exact wds_at (by omega) | exact bos_at (by omega) | rfl)) ?_; refine ql_v rfl (o_move (by conv => lhs; whnf)) ?_; refine ql_v rfl (o_move (by conv => lhs; whnf)) ?_; refine ql_v rfl (o_ixP Try.underlying74 sz72 rfl rfl (by first | omega | (simp only [bys_length, ints_length, wds_length, bos_length, List.length_append, List.length_take, List.length_drop, List.length_singleton]; omega)) (by repeat (first | exact nn_some | with_reducible exact nn_sl (by decide) | exact nn_rs (by assumption) (fun _ => by first | omega | (simp only [bys_length, ints_length, wds_length, bos_length, List.length_append, List.length_take, List.length_drop, List.length_singleton]; omega)) | apply Nn.left))) ?_
        refine ql_v rfl (o_faP (m := 0) (o := 0) Try.underlying72 rfl rfl sz3 rfl (by repeat (first | exact nn_some | with_reducible exact nn_sl (by decide) | exact nn_rs (by assumption) (fun _ => by first | omega | (simp only [bys_length, ints_length, wds_length, bos_length, List.length_append, List.length_take, List.length_drop, List.length_singleton]; omega)) | apply Nn.left))) ?_; refine ql_v rfl (o_ldP p3 rfl (by repeat (first | assumption | with_reducible exact rs_sl | with_reducible exact rs_pt0 | exact rs_none | apply Rs.left)) (by first | assumption | exact bys_at (by omega) | exact ints_at (by omega) | exact wds_at (by omega) | exact bos_at (by omega) | rfl)) ?_; refine ql_v rfl (o_nei rfl rfl) ?_; refine ql_v rfl (o_move (by conv => lhs; whnf)) ?_; refine ql_bool (d := 36) rfl (fun h => ?_) (fun h => ?_)
        · exfalso; simp at h
        · try simp only [lv1, lv2, lv3, lv4, lv5, lv6, Bool.not_true, Bool.not_false] at h
          refine ql_v rfl (o_move (by conv => lhs; whnf)) ?_; refine ql_v rfl (o_move (by conv => lhs; whnf)) ?_; refine ql_v rfl (o_ixP Try.underlying74 sz72 rfl rfl (by first | omega | (simp only [bys_length, ints_length, wds_length, bos_length, List.length_append, List.length_take, List.length_drop, List.length_singleton]; omega)) (by repeat (first | exact nn_some | with_reducible exact nn_sl (by decide) | exact nn_rs (by assumption) (fun _ => by first | omega | (simp only [bys_length, ints_length, wds_length, bos_length, List.length_append, List.length_take, List.length_drop, List.length_singleton]; omega)) | apply Nn.left))) ?_; refine ql_v rfl (o_faP (m := 0) (o := 1) Try.underlying72 rfl rfl sz37 rfl (by repeat (first | exact nn_some | with_reducible exact nn_sl (by decide) | exact nn_rs (by assumption) (fun _ => by first | omega | (simp only [bys_length, ints_length, wds_length, bos_length, List.length_append, List.length_take, List.length_drop, List.length_singleton]; omega)) | apply Nn.left))) ?_; refine ql_v rfl (o_ldP p37 rfl (by repeat (first | assumption | with_reducible exact rs_sl | with_reducible exact rs_pt0 | exact rs_none | apply Rs.left)) (by first | assumption | exact bys_at (by omega) | exact ints_at (by omega) | exact wds_at (by omega) | exact bos_at (by omega) | rfl)) ?_; refine ql_v rfl (o_move (by conv => lhs; whnf)) ?_; refine ql_v rfl (o_move (by conv => lhs; whnf)) ?_; refine ql_v rfl (o_ixP Try.underlying74 sz72 rfl rfl (by first | omega | (simp only [bys_length, ints_length, wds_length, bos_length, List.length_append, List.length_take, List.length_drop, List.length_singleton]; omega)) (by repeat (first | exact nn_some | with_reducible exact nn_sl (by decide) | exact nn_rs (by assumption) (fun _ => by first | omega | (simp only [bys_length, ints_length, wds_length, bos_length, List.length_append, List.length_take, List.length_drop, List.length_singleton]; omega)) | apply Nn.left))) ?_
          refine ql_v rfl (o_faP (m := 0) (o := 1) Try.underlying72 rfl rfl sz37 rfl (by repeat (first | exact nn_some | with_reducible exact nn_sl (by decide) | exact nn_rs (by assumption) (fun _ => by first | omega | (simp only [bys_length, ints_length, wds_length, bos_length, List.length_append, List.length_take, List.length_drop, List.length_singleton]; omega)) | apply Nn.left))) ?_; refine ql_v rfl (o_ldP p37 rfl (by repeat (first | assumption | with_reducible exact rs_sl | with_reducible exact rs_pt0 | exact rs_none | apply Rs.left)) (by first | assumption | exact bys_at (by omega) | exact ints_at (by omega) | exact wds_at (by omega) | exact bos_at (by omega) | rfl)) ?_; refine ql_c rfl (fun w => exec_call bd114 rfl) (KeptInts_c (xs := ars[i].2) (hr := hro) (hr2 := by repeat (first | exact hkr | apply Rs.left))) ?_; refine ql_v rfl (o_not rfl) ?_; refine ql_v rfl (o_pick_f rfl (by conv => lhs; whnf)) ?_; refine ql_v rfl (o_pick_t rfl (by conv => lhs; whnf)) ?_; refine ql_v rfl (o_move (by conv => lhs; whnf)) ?_; refine ql_bool (d := 51) rfl (fun h => ?_) (fun h => ?_)
          · exfalso; simp at h
          · try simp only [lv1, lv2, lv3, lv4, lv5, lv6, Bool.not_true, Bool.not_false] at h
            refine ql_v rfl (o_move (by conv => lhs; whnf)) ?_; refine ql_v rfl (o_move (by conv => lhs; whnf)) ?_; refine ql_v rfl (o_len Try.underlying74 rfl) ?_; refine ql_v rfl (o_geq rfl rfl) ?_; refine ql_v rfl (o_move (by conv => lhs; whnf)) ?_; refine ql_bool (d := 56) rfl (fun h => ?_) (fun h => ?_)
            · exfalso; simp at h; omega
            · try simp only [lv1, lv2, lv3, lv4, lv5, lv6, Bool.not_true, Bool.not_false] at h
              refine ql_skip rfl ?_; refine ql_skip rfl ?_; refine ql_skip rfl ?_; refine ql_skip rfl ?_; refine ql_skip rfl ?_; refine ql_skip rfl ?_; refine ql_skip rfl ?_; refine ql_skip rfl ?_; refine ql_skip rfl ?_; refine ql_skip rfl ?_; refine ql_skip rfl ?_; refine ql_skip rfl ?_; refine ql_skip rfl ?_; refine ql_skip rfl ?_; refine ql_skip rfl ?_; refine ql_skip rfl ?_; refine ql_skip rfl ?_; refine ql_skip rfl ?_; refine ql_skip rfl ?_; refine ql_skip rfl ?_; refine ql_v rfl (o_pick_f rfl (by conv => lhs; whnf)) ?_; refine ql_v rfl (o_pick_f rfl (by conv => lhs; whnf)) ?_; refine ql_nil ?_; refine q_then_n ?_; refine tc_cond_f rfl ?_; refine tc_skip ?_; refine q_block_n (q_then_n ?_); refine tc_reg ?_; refine tlm ?_; refine tv (by first | exact o_addI rfl rfl (by omega) | exact o_add rfl rfl) ?_; refine tla ?_; refine nq ?_; exact ⟨_, by omega, i + 1, by omega, rfl, rfl, rfl, rfl, rfl, rfl⟩
      · have hge : m ≤ i := by simp at h; omega
        have hgx := tlA_at (by omega : xs.length = m) hge hi4
        have g2 : ((xs ++ tlA 4).flatMap ArX.cells)[i * 2 + 0]? = some (.int .i64 (77 + (((i - m : Nat) : Int)))) := by rw [arx_at hi4 (by decide) rfl, hgx]; rfl
        have g3 : ((xs ++ tlA 4).flatMap ArX.cells)[i * 2 + 1]? = some (.slice none 0 0) := by rw [arx_at hi4 (by decide) rfl, hgx]; rfl
        refine ql_skip rfl ?_; refine ql_skip rfl ?_; refine ql_skip rfl ?_; refine ql_skip rfl ?_; refine ql_skip rfl ?_; refine ql_skip rfl ?_; refine ql_skip rfl ?_; refine ql_skip rfl ?_; refine ql_skip rfl ?_; refine ql_skip rfl ?_; refine ql_skip rfl ?_; refine ql_skip rfl ?_; refine ql_skip rfl ?_; refine ql_skip rfl ?_; refine ql_skip rfl ?_; refine ql_skip rfl ?_; refine ql_skip rfl ?_; refine ql_skip rfl ?_; refine ql_skip rfl ?_; refine ql_skip rfl ?_; refine ql_skip rfl ?_; refine ql_skip rfl ?_; refine ql_skip rfl ?_; refine ql_skip rfl ?_; refine ql_skip rfl ?_; refine ql_v rfl (o_pick_f rfl (by conv => lhs; whnf)) ?_; refine ql_v rfl (o_move (by conv => lhs; whnf)) ?_; refine ql_v rfl (o_move (by conv => lhs; whnf)) ?_; refine ql_v rfl (o_move (by conv => lhs; whnf)) ?_; refine ql_v rfl (o_len Try.underlying74 rfl) ?_; refine ql_v rfl (o_geq rfl rfl) ?_; refine ql_v rfl (o_move (by conv => lhs; whnf)) ?_; refine ql_bool (d := 56) rfl (fun h => ?_) (fun h => ?_)
        · try simp only [lv1, lv2, lv3, lv4, lv5, lv6, Bool.not_true, Bool.not_false] at h
          refine ql_v rfl (o_move (by conv => lhs; whnf)) ?_; refine ql_v rfl (o_move (by conv => lhs; whnf)) ?_; refine ql_v rfl (o_ixP Try.underlying74 sz72 rfl rfl (by first | omega | (simp only [bys_length, ints_length, wds_length, bos_length, List.length_append, List.length_take, List.length_drop, List.length_singleton]; omega)) (by repeat (first | exact nn_some | with_reducible exact nn_sl (by decide) | exact nn_rs (by assumption) (fun _ => by first | omega | (simp only [bys_length, ints_length, wds_length, bos_length, List.length_append, List.length_take, List.length_drop, List.length_singleton]; omega)) | apply Nn.left))) ?_; refine ql_v rfl (o_faP (m := 0) (o := 0) Try.underlying72 rfl rfl sz3 rfl (by repeat (first | exact nn_some | with_reducible exact nn_sl (by decide) | exact nn_rs (by assumption) (fun _ => by first | omega | (simp only [bys_length, ints_length, wds_length, bos_length, List.length_append, List.length_take, List.length_drop, List.length_singleton]; omega)) | apply Nn.left))) ?_; refine ql_v rfl (o_ldP p3 rfl (by repeat (first | assumption | with_reducible exact rs_sl | with_reducible exact rs_pt0 | exact rs_none | apply Rs.left)) (by first | assumption | exact bys_at (by omega) | exact ints_at (by omega) | exact wds_at (by omega) | exact bos_at (by omega) | rfl)) ?_; refine ql_v rfl (o_move (by conv => lhs; whnf)) ?_; refine ql_v rfl (by first | exact o_addI rfl rfl (by omega) | exact o_add rfl rfl) ?_
          refine ql_v rfl (o_move (by conv => lhs; whnf)) ?_; refine ql_v rfl (o_len Try.underlying74 rfl) ?_; refine ql_v rfl (by first | exact o_subI rfl rfl (by omega) | exact o_sub rfl rfl) ?_; refine ql_v rfl (o_nei rfl rfl) ?_; refine ql_v rfl (o_move (by conv => lhs; whnf)) ?_; refine ql_bool (d := 68) rfl (fun h => ?_) (fun h => ?_)
          · exfalso; simp at h; omega
          · try simp only [lv1, lv2, lv3, lv4, lv5, lv6, Bool.not_true, Bool.not_false] at h
            refine ql_v rfl (o_move (by conv => lhs; whnf)) ?_; refine ql_v rfl (o_move (by conv => lhs; whnf)) ?_; refine ql_v rfl (o_ixP Try.underlying74 sz72 rfl rfl (by first | omega | (simp only [bys_length, ints_length, wds_length, bos_length, List.length_append, List.length_take, List.length_drop, List.length_singleton]; omega)) (by repeat (first | exact nn_some | with_reducible exact nn_sl (by decide) | exact nn_rs (by assumption) (fun _ => by first | omega | (simp only [bys_length, ints_length, wds_length, bos_length, List.length_append, List.length_take, List.length_drop, List.length_singleton]; omega)) | apply Nn.left))) ?_; refine ql_v rfl (o_faP (m := 0) (o := 1) Try.underlying72 rfl rfl sz37 rfl (by repeat (first | exact nn_some | with_reducible exact nn_sl (by decide) | exact nn_rs (by assumption) (fun _ => by first | omega | (simp only [bys_length, ints_length, wds_length, bos_length, List.length_append, List.length_take, List.length_drop, List.length_singleton]; omega)) | apply Nn.left))) ?_; refine ql_v rfl (o_ldP p37 rfl (by repeat (first | assumption | with_reducible exact rs_sl | with_reducible exact rs_pt0 | exact rs_none | apply Rs.left)) (by first | assumption | exact bys_at (by omega) | exact ints_at (by omega) | exact wds_at (by omega) | exact bos_at (by omega) | rfl)) ?_; refine ql_v rfl (o_len Try.underlying37 rfl) ?_; refine ql_v rfl (o_nei rfl rfl) ?_; refine ql_v rfl (o_pick_f rfl (by conv => lhs; whnf)) ?_
            refine ql_v rfl (o_pick_t rfl (by conv => lhs; whnf)) ?_; refine ql_v rfl (o_pick_f rfl (by conv => lhs; whnf)) ?_; refine ql_nil ?_; refine q_then_n ?_; refine tc_cond rfl (fun h => ?_) (fun h => ?_)
            · exfalso; simp at h
            · try simp only [lv1, lv2, lv3, lv4, lv5, lv6, Bool.not_true, Bool.not_false] at h
              refine tc_skip ?_; refine q_block_n (q_then_n ?_); refine tc_reg ?_; refine tlm ?_; refine tv (by first | exact o_addI rfl rfl (by omega) | exact o_add rfl rfl) ?_; refine tla ?_; refine nq ?_; exact ⟨_, by omega, i + 1, by omega, rfl, rfl, rfl, rfl, rfl, rfl⟩
        · exfalso; simp at h; omega
    · have h0 : (0 : Nat) ≤ m := Nat.zero_le _
      refine tc_exit ?_; refine q_then_e (q_then_e (q_block_x (q_then_n ?_))); refine tc_seq ?_; refine sr ?_; refine tla ?_; refine nq ?_; refine tc_block ?_; refine tc_loop (fun kk ρ BB => ∃ (i : Nat) (zs : List ArX), (i ≤ m) ∧ (zs.length = m + 4) ∧ (zs.drop i = (xs ++ tlA 4).drop i) ∧ kk = m - i ∧ ρ 7 = .int .i64 (i : Nat) ∧ ρ 0 = .slice a m c ∧ Dr BB (F * Sl 2 (.slice a (m + 4) c) (m + 4) (zs.flatMap ArX.cells) * Bs ownA (xs.drop i))) (m := m - (0)) ?_ ?_
      · exact ⟨0, xs ++ tlA 4, by omega, hxt, rfl, rfl, rfl, rfl, (by repeat (first | with_reducible exact dr_refl | apply dr_keep | apply dr_drop))⟩
      · intro k ρ B hI
        obtain ⟨i, zs, hp0, hp1, hp2, hkk2, hE7, hE0, hBA⟩ := hI
        refine tc_pre hBA.sat ?_
        clear hBA
        refine tc_env (d := 7) hE7 ?_; refine tc_env (d := 0) hE0 ?_
        clear hE7 hE0
        refine tc_seq ?_; refine sr ?_; refine tlm ?_; refine tlm ?_; refine tv (o_len Try.underlying74 rfl) ?_; refine tv (o_lss rfl rfl) ?_; refine nq ?_; refine tc_cond rfl (fun h => ?_) (fun h => ?_)
        · have hix : i < xs.length := by simp at h; omega
          have hiz : i < zs.length := by omega
          have hz : zs[i] = xs[i] := by
            have h1 := congrArg (fun l : List ArX => l[0]?) hp2
            simp only [List.getElem?_drop, Nat.add_zero] at h1
            rw [List.getElem?_eq_getElem hiz, List.getElem?_eq_getElem (by omega), List.getElem_append_left hix] at h1
            exact Option.some.inj h1
          have hfz : (zs.flatMap ArX.cells).length = (m + 4) * 2 := by rw [fm_length (fun x _ => arx_len x), hp1]
          have hcz := hw.cp _ (List.getElem_mem hix)
          obtain ⟨_, x1, x2, x3⟩ := arw_at hw (show i < ars.length by omega)
          have hkl : xs[i].kp.length ≤ 1099511627776 := by rw [x2]; exact (hk _ (List.getElem_mem _)).2.1
          have g3 : (zs.flatMap ArX.cells)[i * 2 + 1]? = some (.slice xs[i].a xs[i].kp.length (xs[i].kp.length + 9)) := by rw [arx_at hiz (by decide) rfl, hz, ← hcz]; rfl
          refine tc_eq (show _ = F * Sl 2 (.slice a (m + 4) c) (m + 4) (zs.flatMap ArX.cells) * Bs ownA (xs.drop (i + 1)) * Sl 1 (.slice xs[i].a (xs[i].kp.length + 9) (xs[i].kp.length + 9)) (xs[i].kp.length + 9) (ints (xs[i].kp ++ spi xs[i].kp.length)) by rw [List.drop_eq_getElem_cons hix, bs_cons, ← star_assoc]; rfl) ?_
          have hnz : (zs.set i (⟨1, none, 0, []⟩ : ArX)).drop (i + 1) = (xs ++ tlA 4).drop (i + 1) := by
            rw [List.drop_set_of_lt (by omega)]
            have h1 := congrArg (List.drop 1) hp2
            rwa [List.drop_drop, List.drop_drop] at h1
          refine tc_skip ?_; refine q_then_n ?_; refine tc_seq ?_; refine tc_block ?_; refine tc_seq ?_; refine sr ?_; refine tla ?_; refine nq ?_; refine tc_block ?_; refine tc_loop (fun kk ρ BB => ∃ (k : Nat) (ys : List Int), (k ≤ xs[i].kp.length) ∧ (ys.length = (xs[i].kp.length + 9)) ∧ kk = xs[i].kp.length - k ∧ ρ 8 = .int .i64 (k : Nat) ∧ ρ 0 = .slice a m c ∧ ρ 7 = .int .i64 (i : Nat) ∧ BB = F * Sl 2 (.slice a (m + 4) c) (m + 4) (zs.flatMap ArX.cells) * Bs ownA (xs.drop (i + 1)) * Sl 1 (.slice xs[i].a (xs[i].kp.length + 9) (xs[i].kp.length + 9)) (xs[i].kp.length + 9) (ints ys)) (m := xs[i].kp.length - (0)) ?_ ?_
          · exact ⟨0, xs[i].kp ++ spi xs[i].kp.length, by omega, by rw [List.length_append, spi_len], rfl, rfl, rfl, rfl, rfl⟩
          · intro k ρ B hI
            obtain ⟨k, ys, hq0, hq1, hkk3, hE8, hE0, hE7, rfl⟩ := hI
            refine tc_env (d := 8) hE8 ?_; refine tc_env (d := 0) hE0 ?_; refine tc_env (d := 7) hE7 ?_
            clear hE8 hE0 hE7
            refine tc_seq ?_; refine tc_seq ?_
            have hra : Rs (F * Sl 2 (.slice a (m + 4) c) (m + 4) (zs.flatMap ArX.cells) * Bs ownA (xs.drop (i + 1)) * Sl 1 (.slice xs[i].a (xs[i].kp.length + 9) (xs[i].kp.length + 9)) (xs[i].kp.length + 9) (ints ys)) a (zs.flatMap ArX.cells) := rs_sl.left.left
            have hrk : Rs (F * Sl 2 (.slice a (m + 4) c) (m + 4) (zs.flatMap ArX.cells) * Bs ownA (xs.drop (i + 1)) * Sl 1 (.slice xs[i].a (xs[i].kp.length + 9) (xs[i].kp.length + 9)) (xs[i].kp.length + 9) (ints ys)) xs[i].a (ints ys) := rs_sl
            refine tc_reg ?_; refine tlm ?_; refine tlm ?_; refine tlm ?_; refine tv (o_ixP Try.underlying74 sz72 rfl rfl (by first | omega | (simp only [bys_length, ints_length, wds_length, bos_length, List.length_append, List.length_take, List.length_drop, List.length_singleton]; omega)) (by repeat (first | exact nn_some | with_reducible exact nn_sl (by decide) | exact nn_rs (by assumption) (fun _ => by first | omega | (simp only [bys_length, ints_length, wds_length, bos_length, List.length_append, List.length_take, List.length_drop, List.length_singleton]; omega)) | apply Nn.left))) ?_; refine tv (o_faP (m := 0) (o := 1) Try.underlying72 rfl rfl sz37 rfl (by repeat (first | exact nn_some | with_reducible exact nn_sl (by decide) | exact nn_rs (by assumption) (fun _ => by first | omega | (simp only [bys_length, ints_length, wds_length, bos_length, List.length_append, List.length_take, List.length_drop, List.length_singleton]; omega)) | apply Nn.left))) ?_; refine tv (o_ldP p37 rfl (by repeat (first | assumption | with_reducible exact rs_sl | with_reducible exact rs_pt0 | exact rs_none | apply Rs.left)) (by first | assumption | exact bys_at (by omega) | exact ints_at (by omega) | exact wds_at (by omega) | exact bos_at (by omega) | rfl)) ?_; refine tv (o_len Try.underlying37 rfl) ?_; refine tv (o_lss rfl rfl) ?_; refine nq ?_
            refine tc_cond rfl (fun h => ?_) (fun h => ?_)
            · try simp only [lv1, lv2, lv3, lv4, lv5, lv6, Bool.not_true, Bool.not_false] at h
              refine tc_skip ?_; refine q_then_n ?_; refine tc_seq ?_; refine tc_block ?_; refine tc_reg ?_; refine tlm ?_; refine tlm ?_; refine tv (o_ixP Try.underlying74 sz72 rfl rfl (by first | omega | (simp only [bys_length, ints_length, wds_length, bos_length, List.length_append, List.length_take, List.length_drop, List.length_singleton]; omega)) (by repeat (first | exact nn_some | with_reducible exact nn_sl (by decide) | exact nn_rs (by assumption) (fun _ => by first | omega | (simp only [bys_length, ints_length, wds_length, bos_length, List.length_append, List.length_take, List.length_drop, List.length_singleton]; omega)) | apply Nn.left))) ?_; refine tv (o_faP (m := 0) (o := 1) Try.underlying72 rfl rfl sz37 rfl (by repeat (first | exact nn_some | with_reducible exact nn_sl (by decide) | exact nn_rs (by assumption) (fun _ => by first | omega | (simp only [bys_length, ints_length, wds_length, bos_length, List.length_append, List.length_take, List.length_drop, List.length_singleton]; omega)) | apply Nn.left))) ?_; refine tv (o_ldP p37 rfl (by repeat (first | assumption | with_reducible exact rs_sl | with_reducible exact rs_pt0 | exact rs_none | apply Rs.left)) (by first | assumption | exact bys_at (by omega) | exact ints_at (by omega) | exact wds_at (by omega) | exact bos_at (by omega) | rfl)) ?_; refine tlm ?_; refine tv (o_ixP1 Try.underlying37 sz3 rfl rfl (by first | omega | (simp only [bys_length, ints_length, wds_length, bos_length, List.length_append, List.length_take, List.length_drop, List.length_singleton]; omega)) (by repeat (first | exact nn_some | with_reducible exact nn_sl (by decide) | exact nn_rs (by assumption) (fun _ => by first | omega | (simp only [bys_length, ints_length, wds_length, bos_length, List.length_append, List.length_take, List.length_drop, List.length_singleton]; omega)) | apply Nn.left))) ?_
              refine tl_u rfl (o_stP sz3 rfl rfl rfl (by repeat (first | with_reducible exact ct_here | apply ct_left)) (by omega) (by first | exact bys_set _ _ _ | exact ints_set _ _ _ | exact wds_set' _ _ _ | exact bos_set _ _ _ | rfl)) ?_; refine tl_nil ?_; refine q_block_n (q_then_n ?_); refine tc_reg ?_; refine tlm ?_; refine tv (by first | exact o_addI rfl rfl (by omega) | exact o_add rfl rfl) ?_; refine tla ?_; refine nq ?_; exact ⟨_, by omega, k + 1, ys.set k 5, by omega, by rw [List.length_set]; exact hq1, rfl, rfl, rfl, rfl, rfl⟩
            · try simp only [lv1, lv2, lv3, lv4, lv5, lv6, Bool.not_true, Bool.not_false] at h
              refine tc_exit ?_; refine q_then_e (q_then_e (q_block_x (q_then_n ?_))); refine tc_reg ?_; refine tlm ?_; refine tlm ?_; refine tv (o_bS (l := [_, _]) (pv_cons (by conv => lhs; whnf) pv_nil) Try.underlying72 z72 (pl72 Try.underlying72) rfl) ?_; refine tv (o_ixP Try.underlying74 sz72 rfl rfl (by first | omega | (simp only [bys_length, ints_length, wds_length, bos_length, List.length_append, List.length_take, List.length_drop, List.length_singleton]; omega)) (by repeat (first | exact nn_some | with_reducible exact nn_sl (by decide) | exact nn_rs (by assumption) (fun _ => by first | omega | (simp only [bys_length, ints_length, wds_length, bos_length, List.length_append, List.length_take, List.length_drop, List.length_singleton]; omega)) | apply Nn.left))) ?_; refine tl_u rfl (o_stPN (vs := [.int .i64 1, .slice none 0 0]) (ys := (zs.set i (⟨1, none, 0, []⟩ : ArX)).flatMap ArX.cells) sz72 rfl rfl rfl rfl (by decide) (by repeat (first | with_reducible exact ct_here | apply ct_left)) (by omega) (fm_spl (k := 2) (f := ArX.cells) (y := (⟨1, none, 0, []⟩ : ArX)) (fun x _ => arx_len x) hiz rfl)) ?_; refine tl_nil ?_; refine q_block_n (q_then_n ?_); refine tc_reg ?_; refine tlm ?_; refine tv (by first | exact o_addI rfl rfl (by omega) | exact o_add rfl rfl) ?_; refine tla ?_; refine tl_nil ?_
              refine q_then_n ?_; exact ⟨_, by omega, i + 1, zs.set i (⟨1, none, 0, []⟩ : ArX), by omega, by rw [List.length_set]; exact hp1, hnz, rfl, rfl, rfl, (by repeat (first | with_reducible exact dr_refl | apply dr_keep | apply dr_drop))⟩
        · try simp only [lv1, lv2, lv3, lv4, lv5, lv6, Bool.not_true, Bool.not_false] at h
          refine tc_exit ?_; refine q_then_e (q_then_e (q_block_x (q_then_n ?_))); refine sr ?_; refine tla ?_; refine nq ?_; refine tc_ret ?_; exact ⟨.bool true, F, res1 rfl rfl, Dr.sat (by repeat (first | with_reducible exact dr_refl | apply dr_keep | apply dr_drop)), rfl, rfl⟩
theorem armsKept_c {A R : SP} {C : SP → SP} {a a2 : Option Addr} {c c2 m : Nat} {xs : List ArX} {kvs : List Value} {ars : List (Int × List Int)} (hc : Ct A (ArO a c m xs) R C := by repeat (first | with_reducible exact ct_here | apply ct_left)) (hw : ArW xs ars := by assumption) (hr : RdA R a2 kvs ars) (hm : ars.length = m := by first | assumption | rfl) (hmc : m + 4 ≤ c := by omega) (hl : m ≤ 1099511627776 := by omega) (hk : ∀ x ∈ ars, (-9223372036854775808 ≤ x.1 ∧ x.1 ≤ 9223372036854775807) ∧ x.2.length ≤ 1099511627776 ∧ ∀ k ∈ x.2, k ≤ 9223372036854775807) :
    Fn Try.prog 112 #[.slice a m c, .slice a2 m c2] A (fun v B => v = .bool true ∧ B = R) := by
  obtain ⟨rfl, _⟩ := hc
  exact armsKept_f R hw hr hm hmc hl hk
end Go.Vl

set_option linter.unusedVariables false
set_option linter.unusedSimpArgs false
namespace Go.Vl
open Go Go.Proofs
def zz : List Nat := List.replicate 64 0
def LostI (n : Nat) (xs I : List Nat) : Prop := I.length = n ∧ I.drop 192 = xs.drop 192 ∧ (I.take 192 = xs.take 192 ∨ I.take 64 ≠ sbB [n, 128, 32768, 32896, (n - 32896) / 256, 0] ∨ (I.drop 64).take 128 = List.replicate 128 0)
def DoneI (n : Nat) (xs I : List Nat) : Prop := I.length = n ∧ I.drop 192 = xs.drop 192 ∧ I.take 64 = sbB [n, 128, 32768, 32896, (n - 32896) / 256, 0] ∧ (I.drop 64).take 128 = List.replicate 128 0
end Go.Vl

set_option linter.unusedVariables false
set_option linter.unusedSimpArgs false
namespace Go.Vl
open Go Go.Proofs
def PSteps (A : SP) (cs : List Value) (ss : List StepC) : Prop := ∃ a cap, cs = [.slice a ss.length cap] ∧ ss.length ≤ cap ∧ ss.length ≤ 1353245080300 ∧ Rs A a (scs ss) ∧ ∀ t ∈ ss, t.v < 18446744073709551616
end Go.Vl

set_option linter.unusedVariables false
set_option linter.unusedSimpArgs false
namespace Go.Vl
open Go Go.Proofs
structure ImC where
  sz : Int
  fl : Int
  ha : Option Addr
  hcp : Nat
  hd : List Nat
  rt : Bool
  tn : Int
def ImC.cells (t : ImC) : List Value := [.int .i64 t.sz, .int .u8 t.fl, .slice t.ha t.hd.length t.hcp, .bool t.rt, .int .i64 t.tn]
def PImg (A : SP) (cs : List Value) (t : ImC) : Prop := cs = t.cells ∧ Rs A t.ha (bys t.hd) ∧ (∀ x ∈ t.hd, x < 256) ∧ t.hd.length ≤ t.hcp ∧ t.hd.length ≤ 140737488351232 ∧ (0 ≤ t.fl ∧ t.fl < 256) ∧ (-9223372036854775808 ≤ t.tn ∧ t.tn ≤ 9223372036854775807) ∧ (-9223372036854775808 ≤ t.sz ∧ t.sz ≤ 9223372036854775807)
end Go.Vl

set_option linter.unusedVariables false
set_option linter.unusedSimpArgs false
namespace Go.Vl
open Go Go.Proofs
theorem Foc.words {A A' : SP} {hvs : List Value} {held : List (List Nat)} (h : Foc A (Words hvs held) (Words hvs held) A') (hl : hvs.length = held.length) {g : Gh} {w : World} (hs : sat g w A) :
    ∀ i (hi : i < held.length), ∃ a c, hvs[i]? = some (.slice a held[i].length c) ∧ Rd A a (wds held[i]) := fun i hi => by
  obtain ⟨R, hA, _⟩ := h
  obtain ⟨S, h1, _⟩ := words_get hl hi
  rw [h1, ← star_assoc] at hA
  obtain ⟨a, c, e, _, _, hr⟩ := sl_have' hA hs
  exact ⟨a, c, by rw [List.getElem?_eq_getElem (by omega), e], hr⟩
/-- What PmemLasts looks at, of a book and a device behind a loss of power. -/
structure Lasts (P : PlS) (s2 : DevS) : Prop where
  len : s2.ls.length = P.marks.length
  wf : WfD s2
  wfp : WfD P.s
  seen : ∀ i (h : i < P.seen.length), nm (((imgS P.s).drop (8 * i)).take 8) = P.seen[i]
  held : ∀ i (h : i < P.held.length), nm (((imgS s2).drop (8 * i)).take 8) ∈ P.held[i]
  last : ∀ i (h : i < P.sure.length) (h' : i < P.last.length), P.sure[i] = true → nm (((imgS s2).drop (8 * i)).take 8) = P.last[i]
end Go.Vl

set_option linter.unusedVariables false
set_option linter.unusedSimpArgs false
namespace Go.Vl
open Go Go.Proofs
/-- The book tells the device. -/
structure InvL (P : PlS) (w : Nat) (l : LineS) : Prop where
  seen : (seenL l).getD (w % 8) 0 = P.seen.getD w 0
  held : ∀ σ ∈ l.st, σ.getD (w % 8) 0 ∈ P.held.getD w []
  last : P.sure.getD w false = true → ∀ σ ∈ l.st, σ.getD (w % 8) 0 = P.last.getD w 0
  mark : P.marks.getD (w / 8) 0 = 1 → l.mark = (l.st.length : Int) - 1
def Inv (P : PlS) : Prop := ∀ w l, w < P.seen.length → P.s.ls[w / 8]? = some l → InvL P w l
end Go.Vl

set_option linter.unusedVariables false
set_option linter.unusedSimpArgs false
namespace Go.Vl
open Go Go.Proofs
instance : Inhabited StepC := ⟨⟨0, 0, .bool false, 0, .bool false, .bool false, .bool false⟩⟩
end Go.Vl

set_option linter.unusedVariables false
set_option linter.unusedSimpArgs false
namespace Go.Vl
open Go Go.Proofs
attribute [local irreducible] Sl pt ro
theorem wfR_ct {A R : SP} {C : SP → SP} {r : Nat} {s : DevS} (hc : Ct A (RDev r s) R C) {g : Gh} {w : World} (hs : sat g w A) : WfD s := by
  obtain ⟨rfl, _⟩ := hc; exact (rdev_iff.1 hs).1
end Go.Vl

set_option linter.unusedVariables false
set_option linter.unusedSimpArgs false
namespace Go.Vl
open Go Go.Proofs
theorem ctS_rows {s : DevS} (hw : WfD s) (q : Nat) : (ctS q s).length ≤ 2199023255552 ∧ ∀ l ∈ ctS q s, l.length = 64 := by
  by_cases h : q < s.ls.length
  · rw [ctS_at h, List.length_map]
    have hl := hw.line _ (List.getElem_mem h)
    exact ⟨hl.small, fun l hm => by obtain ⟨x, hx, rfl⟩ := List.mem_map.1 hm; exact lb_len (hl.eight _ hx)⟩
  · have e : ctS q s = [] := ctS_out h
    rw [e]; exact ⟨by simp, fun l h => by simp at h⟩
/-- What Format answers of any device, and the device behind it. -/
def fmX (s : DevS) : (List Int × Int) × DevS := if 578 ≤ s.ls.length then (((fmA (s.ls.length * 64) s).1, (fmtF (fst4 (s.ls.length * 64)) s).1), (fmtF (fst4 (s.ls.length * 64)) s).2) else (([0, 0, 0, 0, 0], 80), s)
attribute [local irreducible] crk crL crc Sl pt ro mbs sbB planT Dev RDev imgS lineT fromS Parts
end Go.Vl

set_option linter.unusedVariables false
set_option linter.unusedSimpArgs false
namespace Go.Vl
open Go Go.Proofs
theorem room_goesK {r : Nat} {keep : List Int} {s : DevS} (hw : WfD s) (h : Room r s) : Room r (goesS keep s) := fun l hl => by
  have h0 := h _ (List.getElem_mem hw.pos)
  have h1 := List.length_pos_iff.2 (hw.line _ (List.getElem_mem hw.pos)).ne
  simp only [goesS, goPart] at hl
  obtain ⟨j, hj, rfl⟩ := List.mem_iff_getElem.1 hl
  simp only [List.getElem_mapIdx]
  simp only [List.length_mapIdx] at hj
  rw [if_pos hj]; simp [goL]; omega
theorem st8_room {r v : Nat} {p e : Int} {s s2 : DevS} (h : st8 p v s = (e, s2)) (hw : WfD s) (hv : v < 18446744073709551616) (hr : Room (r + 1) s) : Room r s2 := by
  have h0 : Room r s := room_le hr (by omega)
  unfold st8 at h
  split at h
  · rw [← (Prod.mk.inj h).2]; exact h0
  · split at h
    · rw [← (Prod.mk.inj h).2]; exact h0
    · rw [← (Prod.mk.inj h).2]
      exact done_room (layS_wf hw (room_le hr (by omega)) hv) (onLine_room hr fun l => by simp [layL])
theorem sto_room {r : Nat} {p e : Int} {b : List Nat} {s s2 : DevS} (h : sto p b s = (e, s2)) (hw : WfD s) (hb : ∀ x ∈ b, x < 256) (hr : Room (r + b.length) s) : Room r s2 := by
  have h0 : Room r s := room_le hr (by omega)
  have h2 : (sto p b s).2 = s2 := by rw [h]
  rw [← h2]
  unfold sto
  split
  · exact h0
  · exact (storeF_room b.length rfl hw hb hr).1
theorem flushS_room {r p : Nat} {s : DevS} (h : Room r s) : Room r (flushS p s) := fun l hl => by
  unfold flushS onLine at hl
  split at hl
  · rcases List.mem_or_eq_of_mem_set hl with h1 | h1
    · exact h l h1
    · rw [h1]
      rename_i l0 e
      exact h l0 (List.mem_of_getElem? e)
  · exact h l hl
theorem fl1_room {r : Nat} {p e : Int} {s s2 : DevS} (h : fl1 p s = (e, s2)) (hw : WfD s) (hr : Room r s) : Room r s2 := by
  unfold fl1 at h
  split at h
  · rw [← (Prod.mk.inj h).2]; exact hr
  · rw [← (Prod.mk.inj h).2]; exact done_room (flushS_wf hw) (flushS_room hr)
theorem fe_room {r : Nat} {e : Int} {s s2 : DevS} (h : fe s = (e, s2)) (hw : WfD s) (hr : Room r s) : Room r s2 := by
  unfold fe at h
  split at h
  · rw [← (Prod.mk.inj h).2]; exact hr
  · rw [← (Prod.mk.inj h).2]
    refine done_room (fence_wf hw) fun l hl => ?_
    simp only [fenceS, List.mem_map] at hl
    obtain ⟨l0, h0, rfl⟩ := hl
    have h3 : (fenceL l0).st.length ≤ l0.st.length := by unfold fenceL; split <;> simp
    have := hr l0 h0
    omega
theorem armS_room {r : Nat} {e : Int} {ars : List (Int × List Int)} {s s2 : DevS} (h : armS ars s = (e, s2)) (hr : Room r s) : Room r s2 := by
  unfold armS at h
  split at h
  · rw [← (Prod.mk.inj h).2]; exact hr
  · split at h
    · rw [← (Prod.mk.inj h).2]; exact hr
    · split at h
      · rw [← (Prod.mk.inj h).2]; exact hr
      · rw [← (Prod.mk.inj h).2]; exact hr
theorem crS_room {r : Nat} {e : Int} {kp : List Int} {s s2 : DevS} (h : crS kp s = (e, s2)) (hw : WfD s) (hr : Room r s) : Room r s2 := by
  unfold crS at h
  split at h
  · rw [← (Prod.mk.inj h).2]; exact hr
  · split at h
    · rw [← (Prod.mk.inj h).2]; exact hr
    · rw [← (Prod.mk.inj h).2]; exact room_goesK hw hr
/-- The contents of a line, by any number. -/
def ctI (p : Int) (s : DevS) : List (List Nat) := if p < 0 then [] else ctS p.toNat s
theorem ctI_nat {q : Nat} {s : DevS} : ctI (q : Int) s = ctS q s := by unfold ctI; rw [if_neg (by omega)]; rfl
theorem ctI_out {p : Int} {s : DevS} (h : ¬ (0 ≤ p ∧ p < s.ls.length)) : ctI p s = [] := by
  unfold ctI
  split
  · rfl
  · exact ctS_out (by omega)
theorem ctI_rows {s : DevS} (hw : WfD s) (p : Int) : (ctI p s).length ≤ 2199023255552 ∧ ∀ l ∈ ctI p s, l.length = 64 := by
  unfold ctI
  split
  · exact ⟨by simp, fun l h => by simp at h⟩
  · exact ctS_rows hw _
/-- What Load tells. -/
def ldB (p m : Int) (s : DevS) : List Nat := if rdy s.ls.length s.off p m = 0 then ((imgS s).drop p.toNat).take m.toNat else []
theorem ldB_len {p m : Int} {s : DevS} (hw : WfD s) : (ldB p m s).length ≤ 4194304 := by
  unfold ldB
  split
  · have := imgS_len hw
    have := hw.top
    rw [List.length_take, List.length_drop]; omega
  · simp
theorem rct_wf2 {A R : SP} {C : SP → SP} {r : Nat} {s : DevS} (hc : Ct A (RDev r s) R C) {g : Gh} {w : World} (h : sat g w A) : WfD s := wfR_ct hc h
theorem parts_take : ∀ {vs : List Value} {ls : List (List Nat)} (_ : vs.length = ls.length) (k : Nat), ∃ R, Parts vs ls = Parts (vs.take k) (ls.take k) * R
  | [], [], _, k => ⟨emp, by simp only [List.take_nil]; exact (star_emp _).symm⟩
  | v :: vs, l :: ls, _, 0 => ⟨Parts (v :: vs) (l :: ls), by simp only [List.take_zero]; rw [parts_nil]; exact (emp_star _).symm⟩
  | v :: vs, l :: ls, h, k + 1 => by
    obtain ⟨R, e⟩ := parts_take (vs := vs) (ls := ls) (by simpa using h) k
    refine ⟨R, ?_⟩
    show Parts vs ls * Sl 1 v l.length (bys l) = Parts (vs.take k) (ls.take k) * Sl 1 v l.length (bys l) * R
    rw [e]; ac_rfl
theorem sl_take {k n c l : Nat} {a : Option Addr} {xs : List Value} {R : SP} {g : Gh} {w : World} (hs : sat g w (R * Sl k (.slice a n c) n xs)) (hl : l ≤ n) : sat g w (R * Sl k (.slice a l c) l (xs.take (l * k))) := by
  have hlk : l * k ≤ n * k := Nat.mul_le_mul_right k hl
  obtain ⟨h1, ⟨e1, e2, e3⟩ | ⟨b, off, cap, L, E, e1, h2, h3, h4, hs'⟩⟩ := sl_iff.1 hs
  · obtain rfl : l = 0 := by omega
    simp only [Value.slice.injEq] at e1
    obtain ⟨rfl, _, rfl⟩ := e1
    rw [Nat.zero_mul, List.take_zero]
    exact sl_nil e3
  · simp only [Value.slice.injEq] at e1
    obtain ⟨rfl, _, rfl⟩ := e1
    refine sl_iff.2 ⟨by rw [List.length_take, h1]; omega, .inr ⟨b, off, _, L, E, rfl, by omega, h3, ?_, hs'⟩⟩
    rw [← h4, List.take_take, Nat.min_eq_left hlk]
/-- Rows, of which only the first few are kept. -/
theorem rows_take {A : SP} {a : Option Addr} {n c l : Nat} {vs : List Value} {ls : List (List Nat)} {g : Gh} {w : World} (hl : ls.length = n) (h : sat g w (A * Parts vs ls * Sl 1 (.slice a n c) n vs)) (hn : l ≤ n) :
    sat g w (A * Parts (vs.take l) (ls.take l) * Sl 1 (.slice a l c) l (vs.take l)) := by
  have hv := parts_len h.left
  obtain ⟨R, e⟩ := parts_take hv l
  have h2 := sl_take h hn
  rw [Nat.mul_one, e] at h2
  exact (h2.perm (show _ = A * Parts (vs.take l) (ls.take l) * Sl 1 (.slice a l c) l (vs.take l) * R by ac_rfl)).left
theorem Contents_I {A R : SP} {C : SP → SP} {d : Nat} {s : DevS} (hc : Ct A (Dev d s) R C := by repeat (first | with_reducible exact ct_here | apply ct_left)) {p : Int} (hp : -9223372036854775808 ≤ p ∧ p ≤ 9223372036854775807 := by omega) : Fn Try.prog 35 #[.pointer (some ⟨d, 0, none⟩), .int .i64 p] A (fun r B => ∃ a c vs, r = .slice a (ctI p s).length c ∧ (ctI p s).length ≤ c ∧ B = A * Parts vs (ctI p s) * Sl 1 (.slice a (ctI p s).length c) (ctI p s).length vs) := by
  by_cases h : 0 ≤ p ∧ p < s.ls.length
  · obtain ⟨q, rfl⟩ := Int.eq_ofNat_of_zero_le h.1
    rw [ctI_nat]
    exact Contents_c hc (hq := by omega)
  · have e : ctI p s = [] := ctI_out h
    intro g w hs
    refine (ContentsNo_c (p := p) hc hp (by omega) g w hs).mono ?_; rintro x w' ⟨v, B, rfl, ⟨rfl, rfl⟩, hB⟩; refine ⟨_, A * Parts [] [] * Sl 1 (.slice none 0 0) 0 [], rfl, ⟨none, 0, [], by rw [e]; rfl, by rw [e]; exact Nat.le_refl _, by rw [e]; rfl⟩, ?_⟩
    rw [parts_nil, star_emp]; exact sl_nil hB
theorem rContents_I {A R : SP} {C : SP → SP} {d : Nat} {s : DevS} (hc : Ct A (RDev d s) R C := by repeat (first | with_reducible exact ct_here | apply ct_left)) {p : Int} (hp : -9223372036854775808 ≤ p ∧ p ≤ 9223372036854775807 := by omega) : Fn Try.prog 82 #[.pointer (some ⟨d, 0, none⟩), .int .i64 p] A (fun r B => ∃ a c vs, r = .slice a (ctI p s).length c ∧ (ctI p s).length ≤ c ∧ B = A * Parts vs (ctI p s) * Sl 1 (.slice a (ctI p s).length c) (ctI p s).length vs) := by
  by_cases h : 0 ≤ p ∧ p < s.ls.length
  · obtain ⟨q, rfl⟩ := Int.eq_ofNat_of_zero_le h.1
    rw [ctI_nat]
    exact rContents_c hc (hq := by omega)
  · have e : ctI p s = [] := ctI_out h
    intro g w hs
    refine (rContentsNo_c (p := p) hc (by omega) g w hs).mono ?_; rintro x w' ⟨v, B, rfl, ⟨rfl, rfl⟩, hB⟩; refine ⟨_, A * Parts [] [] * Sl 1 (.slice none 0 0) 0 [], rfl, ⟨none, 0, [], by rw [e]; rfl, by rw [e]; exact Nat.le_refl _, by rw [e]; rfl⟩, ?_⟩
    rw [parts_nil, star_emp]; exact sl_nil hB
theorem Load_any {A R : SP} {C : SP → SP} {d : Nat} {s : DevS} (hc : Ct A (Dev d s) R C := by repeat (first | with_reducible exact ct_here | apply ct_left)) {p m : Int} (hp : -9223372036854775808 ≤ p ∧ p ≤ 9223372036854775807 := by omega) (hm : -9223372036854775808 ≤ m ∧ m ≤ 9223372036854775807 := by omega) :
    Fn Try.prog 27 #[.pointer (some ⟨d, 0, none⟩), .int .i64 p, .int .i64 m] A (fun r B => ∃ a c, r = .tuple #[.slice a (ldB p m s).length c, .int .i64 (rdy s.ls.length s.off p m)] ∧ (ldB p m s).length ≤ c ∧ B = A * Sl 1 (.slice a (ldB p m s).length c) (ldB p m s).length (bys (ldB p m s))) := by
  intro g w hs
  have hw := ct_wf2 hc hs
  have hil := imgS_len hw
  by_cases h : rdy s.ls.length s.off p m = 0
  · obtain ⟨ho, h0, h1, h2⟩ := rdy0 h
    obtain ⟨q, rfl⟩ := Int.eq_ofNat_of_zero_le h0
    obtain ⟨k, rfl⟩ := Int.eq_ofNat_of_zero_le h1
    have e : ldB (q : Int) (k : Int) s = ((imgS s).drop q).take k := by unfold ldB; rw [if_pos h]; rfl
    have el : (((imgS s).drop q).take k).length = k := by rw [List.length_take, List.length_drop]; omega
    rw [e, el, h]
    exact Load_c hc (hoff := ho) (hpm := by omega) g w hs
  · have e : ldB p m s = [] := by unfold ldB; rw [if_neg h]
    refine (LoadNo_c hc hp hm h g w hs).mono ?_; rintro x w' ⟨v, B, rfl, ⟨rfl, rfl⟩, hB⟩
    rw [e]
    exact ⟨_, A * Sl 1 (.slice none 0 0) 0 [], rfl, ⟨none, 0, rfl, Nat.le_refl _, rfl⟩, sl_nil hB⟩
theorem rLoad_any {A R : SP} {C : SP → SP} {d : Nat} {s : DevS} (hc : Ct A (RDev d s) R C := by repeat (first | with_reducible exact ct_here | apply ct_left)) {p m : Int} (hp : -9223372036854775808 ≤ p ∧ p ≤ 9223372036854775807 := by omega) (hm : -9223372036854775808 ≤ m ∧ m ≤ 9223372036854775807 := by omega) :
    Fn Try.prog 106 #[.pointer (some ⟨d, 0, none⟩), .int .i64 p, .int .i64 m] A (fun r B => ∃ a c, r = .tuple #[.slice a (ldB p m s).length c, .int .i64 (rdy s.ls.length s.off p m)] ∧ (ldB p m s).length ≤ c ∧ B = A * Sl 1 (.slice a (ldB p m s).length c) (ldB p m s).length (bys (ldB p m s))) := by
  intro g w hs
  have hw := rct_wf2 hc hs
  have hil := imgS_len hw
  by_cases h : rdy s.ls.length s.off p m = 0
  · obtain ⟨ho, h0, h1, h2⟩ := rdy0 h
    obtain ⟨q, rfl⟩ := Int.eq_ofNat_of_zero_le h0
    obtain ⟨k, rfl⟩ := Int.eq_ofNat_of_zero_le h1
    have e : ldB (q : Int) (k : Int) s = ((imgS s).drop q).take k := by unfold ldB; rw [if_pos h]; rfl
    have el : (((imgS s).drop q).take k).length = k := by rw [List.length_take, List.length_drop]; omega
    rw [e, el, h]
    exact rLoad_c hc (hoff := ho) (hpm := by omega) g w hs
  · have e : ldB p m s = [] := by unfold ldB; rw [if_neg h]
    refine (rLoadNo_c hc hp hm h g w hs).mono ?_; rintro x w' ⟨v, B, rfl, ⟨rfl, rfl⟩, hB⟩
    rw [e]
    exact ⟨_, A * Sl 1 (.slice none 0 0) 0 [], rfl, ⟨none, 0, rfl, Nat.le_refl _, rfl⟩, sl_nil hB⟩
end Go.Vl

set_option linter.unusedVariables false
set_option linter.unusedSimpArgs false
namespace Go.Vl
open Go Go.Proofs
def xf (x : Nat) : Nat := (IntKind.u8.wrap ((BitVec.ofInt IntKind.u8.bits (x : Int) ^^^ BitVec.ofInt IntKind.u8.bits 255).toNat : Int)).toNat
attribute [local irreducible] Sl pt ro Dev RDev
set_option maxRecDepth 20000 in
set_option maxHeartbeats 1000000 in
theorem stores_f (F : SP) {b d r : Nat} {s : DevS} {t : StA} (hw : StAW F t) (hroom : Room t.d.length s) (hsz : t.d.length ≤ 1048576) :
    Fn Try.prog 108 #[.pointer (some ⟨b, 0, none⟩), .agg t.cells.toArray] (F * pt b (cl [.pointer (some ⟨d, 0, none⟩), .pointer (some ⟨r, 0, none⟩)] 88) * Dev d s * RDev r s) (fun v B => ∃ s2, v = .bool true ∧ (sto t.q t.d s).2 = s2 ∧ B = F * pt b (cl [.pointer (some ⟨d, 0, none⟩), .pointer (some ⟨r, 0, none⟩)] 88) * Dev d s2 * RDev r s2) := by
  refine fn_enterW (args := [.pointer (some ⟨b, 0, none⟩), .agg t.cells.toArray]) Try.func108 rfl Try.ntmps108 (by simp) ?_
  have hq := hw.q
  have hdc := hw.dcap
  have hdr := hw.drs
  have hdb := hw.dby
  refine sr ?_; refine tl_x rfl (o_box rfl rfl) ?_; rintro _ _ ⟨b3, rfl, rfl⟩; refine tla ?_; refine nq ?_; refine sr ?_; refine tv (o_fieldAddr (o := 4) Try.underlying76 rfl rfl sz28 rfl) ?_; refine tv (by first | exact o_load p28 rfl (by repeat (first | with_reducible exact has_here | with_reducible exact has_pt | apply has_left)) rfl | exact o_loadC p28 rfl (by assumption)) ?_; refine tl_c rfl (o_call bd104 rfl (Spare_c (xs := t.d))) ?_; rintro _ _ ⟨a9, rfl, rfl⟩; refine tla ?_; refine nq ?_; refine tc_seq ?_; refine tc_seq ?_; refine tc_regh (S := F * pt b (cl [.pointer (some ⟨d, 0, none⟩), .pointer (some ⟨r, 0, none⟩)] 88) * pt b3 (cl t.cells 76) * Sl 1 (.slice a9 (t.d.length + 80) (t.d.length + 80)) (t.d.length + 80) (bys (t.d ++ spm t.d.length))) mo (by repeat (first | with_reducible exact dr_refl | apply dr_keep | apply dr_drop)) ?_
  show TH _ _ _ _ _ 25 #[ff,ff,ff,ff,ff,ff,ff,ff,ff,ff,ff,ff,ff,ff,ff,ff,ff,ff,ff,ff,ff,ff,ff,ff,ff] _ _
  refine th_take (i := 0) (listed' := #[tt,ff,ff,ff,ff,ff,ff,ff,ff,ff,ff,ff,ff,ff,ff,ff,ff,ff,ff,ff,ff,ff,ff,ff,ff]) rfl (by kernel_rfl) (by kernel_rfl) (by kernel_rfl) rfl rfl (o_move (by conv => lhs; whnf)) ?_; refine th_take (i := 1) (listed' := #[tt,tt,ff,ff,ff,ff,ff,ff,ff,ff,ff,ff,ff,ff,ff,ff,ff,ff,ff,ff,ff,ff,ff,ff,ff]) rfl (by kernel_rfl) (by kernel_rfl) (by kernel_rfl) rfl rfl (o_nilCheck rfl) ?_; refine th_take (i := 2) (listed' := #[tt,tt,tt,ff,ff,ff,ff,ff,ff,ff,ff,ff,ff,ff,ff,ff,ff,ff,ff,ff,ff,ff,ff,ff,ff]) rfl (by kernel_rfl) (by kernel_rfl) (by kernel_rfl) rfl rfl (o_fieldAddr (o := 0) Try.underlying88 rfl rfl sz41 rfl) ?_; refine th_take (i := 3) (listed' := #[tt,tt,tt,tt,ff,ff,ff,ff,ff,ff,ff,ff,ff,ff,ff,ff,ff,ff,ff,ff,ff,ff,ff,ff,ff]) rfl (by kernel_rfl) (by kernel_rfl) (by kernel_rfl) rfl rfl (by first | exact o_load p41 rfl (by repeat (first | with_reducible exact has_here | with_reducible exact has_pt | apply has_left)) rfl | exact o_loadC p41 rfl (by assumption)) ?_; refine th_take (i := 4) (listed' := #[tt,tt,tt,tt,tt,ff,ff,ff,ff,ff,ff,ff,ff,ff,ff,ff,ff,ff,ff,ff,ff,ff,ff,ff,ff]) rfl (by kernel_rfl) (by kernel_rfl) (by kernel_rfl) rfl rfl (o_fieldAddr (o := 1) Try.underlying76 rfl rfl sz3 rfl) ?_; refine th_take (i := 5) (listed' := #[tt,tt,tt,tt,tt,tt,ff,ff,ff,ff,ff,ff,ff,ff,ff,ff,ff,ff,ff,ff,ff,ff,ff,ff,ff]) rfl (by kernel_rfl) (by kernel_rfl) (by kernel_rfl) rfl rfl (by first | exact o_load p3 rfl (by repeat (first | with_reducible exact has_here | with_reducible exact has_pt | apply has_left)) rfl | exact o_loadC p3 rfl (by assumption)) ?_
  refine th_take (i := 6) (listed' := #[tt,tt,tt,tt,tt,tt,tt,ff,ff,ff,ff,ff,ff,ff,ff,ff,ff,ff,ff,ff,ff,ff,ff,ff,ff]) rfl (by kernel_rfl) (by kernel_rfl) (by kernel_rfl) rfl rfl (o_move (by conv => lhs; whnf)) ?_; refine th_take (i := 8) (listed' := #[tt,tt,tt,tt,tt,tt,tt,ff,tt,ff,ff,ff,ff,ff,ff,ff,ff,ff,ff,ff,ff,ff,ff,ff,ff]) rfl (by kernel_rfl) (by kernel_rfl) (by kernel_rfl) rfl rfl (o_move (by conv => lhs; whnf)) ?_; refine th_take (i := 9) (listed' := #[tt,tt,tt,tt,tt,tt,tt,ff,tt,tt,ff,ff,ff,ff,ff,ff,ff,ff,ff,ff,ff,ff,ff,ff,ff]) rfl (by kernel_rfl) (by kernel_rfl) (by kernel_rfl) rfl rfl (o_nilCheck rfl) ?_; refine th_take (i := 10) (listed' := #[tt,tt,tt,tt,tt,tt,tt,ff,tt,tt,tt,ff,ff,ff,ff,ff,ff,ff,ff,ff,ff,ff,ff,ff,ff]) rfl (by kernel_rfl) (by kernel_rfl) (by kernel_rfl) rfl rfl (o_fieldAddr (o := 1) Try.underlying88 rfl rfl sz86 rfl) ?_; refine th_take (i := 11) (listed' := #[tt,tt,tt,tt,tt,tt,tt,ff,tt,tt,tt,tt,ff,ff,ff,ff,ff,ff,ff,ff,ff,ff,ff,ff,ff]) rfl (by kernel_rfl) (by kernel_rfl) (by kernel_rfl) rfl rfl (by first | exact o_load p86 rfl (by repeat (first | with_reducible exact has_here | with_reducible exact has_pt | apply has_left)) rfl | exact o_loadC p86 rfl (by assumption)) ?_; refine th_take (i := 12) (listed' := #[tt,tt,tt,tt,tt,tt,tt,ff,tt,tt,tt,tt,tt,ff,ff,ff,ff,ff,ff,ff,ff,ff,ff,ff,ff]) rfl (by kernel_rfl) (by kernel_rfl) (by kernel_rfl) rfl rfl (o_fieldAddr (o := 1) Try.underlying76 rfl rfl sz3 rfl) ?_; refine th_take (i := 13) (listed' := #[tt,tt,tt,tt,tt,tt,tt,ff,tt,tt,tt,tt,tt,tt,ff,ff,ff,ff,ff,ff,ff,ff,ff,ff,ff]) rfl (by kernel_rfl) (by kernel_rfl) (by kernel_rfl) rfl rfl (by first | exact o_load p3 rfl (by repeat (first | with_reducible exact has_here | with_reducible exact has_pt | apply has_left)) rfl | exact o_loadC p3 rfl (by assumption)) ?_
  refine th_take (i := 14) (listed' := #[tt,tt,tt,tt,tt,tt,tt,ff,tt,tt,tt,tt,tt,tt,tt,ff,ff,ff,ff,ff,ff,ff,ff,ff,ff]) rfl (by kernel_rfl) (by kernel_rfl) (by kernel_rfl) rfl rfl (o_fieldAddr (o := 4) Try.underlying76 rfl rfl sz28 rfl) ?_; refine th_take (i := 15) (listed' := #[tt,tt,tt,tt,tt,tt,tt,ff,tt,tt,tt,tt,tt,tt,tt,tt,ff,ff,ff,ff,ff,ff,ff,ff,ff]) rfl (by kernel_rfl) (by kernel_rfl) (by kernel_rfl) rfl rfl (by first | exact o_load p28 rfl (by repeat (first | with_reducible exact has_here | with_reducible exact has_pt | apply has_left)) rfl | exact o_loadC p28 rfl (by assumption)) ?_; refine th_one (i := 7) (by kernel_rfl) ?_; refine oh_c (i := 7) (listed' := #[tt,tt,tt,tt,tt,tt,tt,tt,tt,tt,tt,tt,tt,tt,tt,tt,ff,ff,ff,ff,ff,ff,ff,ff,ff]) rfl rfl rfl (o_call bd43 rfl (Store_c (xs := t.d) (hr := rs_pre (by repeat (first | assumption | with_reducible exact rs_sl | with_reducible exact rs_pt0 | exact rs_none | apply Rs.left))) (hroom := fun _ => hroom))) ?_; rintro _ _ ⟨e17, s17, hs17, rfl, rfl⟩; refine ⟨by repeat (first | with_reducible exact dr_refl | apply dr_keep | apply dr_drop), ?_⟩; refine th_one (i := 16) (by kernel_rfl) ?_; refine oh_c (i := 16) (listed' := #[tt,tt,tt,tt,tt,tt,tt,tt,tt,tt,tt,tt,tt,tt,tt,tt,tt,ff,ff,ff,ff,ff,ff,ff,ff]) rfl rfl rfl (o_call bd138 rfl (rStore_c (xs := t.d) (hroom := fun _ => hroom))) ?_; rintro _ _ ⟨e26, s26, hs26, rfl, rfl⟩; refine ⟨by repeat (first | with_reducible exact dr_refl | apply dr_keep | apply dr_drop), ?_⟩
  obtain ⟨rfl, rfl⟩ : e17 = e26 ∧ s17 = s26 := by rw [hs17] at hs26; simpa using hs26
  refine th_take (i := 17) (listed' := #[tt,tt,tt,tt,tt,tt,tt,tt,tt,tt,tt,tt,tt,tt,tt,tt,tt,tt,ff,ff,ff,ff,ff,ff,ff]) rfl (by kernel_rfl) (by kernel_rfl) (by kernel_rfl) rfl rfl (o_nei rfl rfl) ?_; refine th_take (i := 18) (listed' := #[tt,tt,tt,tt,tt,tt,tt,tt,tt,tt,tt,tt,tt,tt,tt,tt,tt,tt,tt,ff,ff,ff,ff,ff,ff]) rfl (by kernel_rfl) (by kernel_rfl) (by kernel_rfl) rfl rfl (o_move (by conv => lhs; whnf)) ?_; refine th_bool (d := 28) rfl (fun h => ?_) (fun h => ?_)
  · exfalso; simp at h
  · try simp only [lv1, lv2, lv3, lv4, lv5, lv6, Bool.not_true, Bool.not_false] at h
    refine th_take (i := 19) (listed' := #[tt,tt,tt,tt,tt,tt,tt,tt,tt,tt,tt,tt,tt,tt,tt,tt,tt,tt,tt,tt,ff,ff,ff,ff,ff]) rfl (by kernel_rfl) (by kernel_rfl) (by kernel_rfl) rfl rfl (o_move (by conv => lhs; whnf)) ?_; refine th_take (i := 20) (listed' := #[tt,tt,tt,tt,tt,tt,tt,tt,tt,tt,tt,tt,tt,tt,tt,tt,tt,tt,tt,tt,tt,ff,ff,ff,ff]) rfl (by kernel_rfl) (by kernel_rfl) (by kernel_rfl) rfl rfl (o_fieldAddr (o := 4) Try.underlying76 rfl rfl sz28 rfl) ?_; refine th_take (i := 21) (listed' := #[tt,tt,tt,tt,tt,tt,tt,tt,tt,tt,tt,tt,tt,tt,tt,tt,tt,tt,tt,tt,tt,tt,ff,ff,ff]) rfl (by kernel_rfl) (by kernel_rfl) (by kernel_rfl) rfl rfl (by first | exact o_load p28 rfl (by repeat (first | with_reducible exact has_here | with_reducible exact has_pt | apply has_left)) rfl | exact o_loadC p28 rfl (by assumption)) ?_; refine th_one (i := 22) (by kernel_rfl) ?_; refine oh_c (i := 22) (listed' := #[tt,tt,tt,tt,tt,tt,tt,tt,tt,tt,tt,tt,tt,tt,tt,tt,tt,tt,tt,tt,tt,tt,tt,ff,ff]) rfl rfl rfl (o_call bd105 rfl (Kept_c (xs := t.d))) ?_; rintro _ _ ⟨rfl, rfl⟩; refine ⟨by repeat (first | with_reducible exact dr_refl | apply dr_keep | apply dr_drop), ?_⟩; refine th_take (i := 23) (listed' := #[tt,tt,tt,tt,tt,tt,tt,tt,tt,tt,tt,tt,tt,tt,tt,tt,tt,tt,tt,tt,tt,tt,tt,tt,ff]) rfl (by kernel_rfl) (by kernel_rfl) (by kernel_rfl) rfl rfl (o_not rfl) ?_; refine th_take (i := 24) (listed' := #[tt,tt,tt,tt,tt,tt,tt,tt,tt,tt,tt,tt,tt,tt,tt,tt,tt,tt,tt,tt,tt,tt,tt,tt,tt]) rfl (by kernel_rfl) (by kernel_rfl) (by kernel_rfl) rfl rfl (o_pick_f rfl (by conv => lhs; whnf)) ?_
    refine th_done (by kernel_rfl) ?_; refine q_then_n ?_; refine tc_cond rfl (fun h => ?_) (fun h => ?_)
    · exfalso; simp at h
    · try simp only [lv1, lv2, lv3, lv4, lv5, lv6, Bool.not_true, Bool.not_false] at h
      refine tc_skip ?_; refine q_then_n ?_; refine tc_seq ?_; refine sr ?_; refine tla ?_; refine nq ?_; refine tc_block ?_; refine tc_loop (fun kk ρ BB => ∃ (i : Nat) (ys : List Nat), (i ≤ t.d.length) ∧ (ys.length = t.d.length + 80) ∧ kk = t.d.length - i ∧ ρ 6 = .int .i64 (i : Nat) ∧ ρ 5 = .slice a9 t.d.length (t.d.length + 80) ∧ BB = F * pt b (cl [.pointer (some ⟨d, 0, none⟩), .pointer (some ⟨r, 0, none⟩)] 88) * Dev d s17 * RDev r s17 * pt b3 (cl t.cells 76) * Sl 1 (.slice a9 (t.d.length + 80) (t.d.length + 80)) (t.d.length + 80) (bys ys)) (m := t.d.length - (0)) ?_ ?_
      · exact ⟨0, t.d ++ spm t.d.length, by omega, (by first | assumption | rfl | simp only [List.length_append, spm_len]), rfl, rfl, rfl, rfl⟩
      · intro k ρ B hI
        obtain ⟨i, ys, hp0, hp1, hkk1, hE6, hE5, rfl⟩ := hI
        refine tc_env (d := 6) hE6 ?_; refine tc_env (d := 5) hE5 ?_
        clear hE6 hE5
        refine tc_seq ?_; refine sr ?_; refine tlm ?_; refine tlm ?_; refine tv (o_len Try.underlying28 rfl) ?_; refine tv (o_lss rfl rfl) ?_; refine nq ?_; refine tc_cond rfl (fun h => ?_) (fun h => ?_)
        · try simp only [lv1, lv2, lv3, lv4, lv5, lv6, Bool.not_true, Bool.not_false] at h
          refine tc_skip ?_; refine q_then_n ?_; refine tc_seq ?_; refine tc_block ?_
          have hra : Rs (F * pt b (cl [.pointer (some ⟨d, 0, none⟩), .pointer (some ⟨r, 0, none⟩)] 88) * Dev d s17 * RDev r s17 * pt b3 (cl t.cells 76) * Sl 1 (.slice a9 (t.d.length + 80) (t.d.length + 80)) (t.d.length + 80) (bys ys)) a9 (bys ys) := rs_sl
          refine tc_reg ?_; refine tlm ?_; refine tlm ?_; refine tlm ?_; refine tlm ?_; refine tv (o_ixP1 Try.underlying28 sz5 rfl rfl (by first | omega | (simp only [bys_length, ints_length, wds_length, bos_length, List.length_append, List.length_take, List.length_drop, List.length_singleton]; omega)) (by repeat (first | exact nn_some | with_reducible exact nn_sl (by decide) | exact nn_rs (by assumption) (fun _ => by first | omega | (simp only [bys_length, ints_length, wds_length, bos_length, List.length_append, List.length_take, List.length_drop, List.length_singleton]; omega)) | apply Nn.left))) ?_; refine tv (o_ldP p5 rfl (by repeat (first | assumption | with_reducible exact rs_sl | with_reducible exact rs_pt0 | exact rs_none | apply Rs.left)) (by first | assumption | exact bys_at (by omega) | exact ints_at (by omega) | exact wds_at (by omega) | exact bos_at (by omega) | rfl)) ?_; refine tv (o_xor rfl rfl) ?_; refine tv (o_ixP1 Try.underlying28 sz5 rfl rfl (by first | omega | (simp only [bys_length, ints_length, wds_length, bos_length, List.length_append, List.length_take, List.length_drop, List.length_singleton]; omega)) (by repeat (first | exact nn_some | with_reducible exact nn_sl (by decide) | exact nn_rs (by assumption) (fun _ => by first | omega | (simp only [bys_length, ints_length, wds_length, bos_length, List.length_append, List.length_take, List.length_drop, List.length_singleton]; omega)) | apply Nn.left))) ?_
          refine tl_u rfl (o_stP sz5 rfl rfl rfl (by repeat (first | with_reducible exact ct_here | apply ct_left)) (by omega) (by first | exact bys_set _ _ _ | exact ints_set _ _ _ | exact wds_set' _ _ _ | exact bos_set _ _ _ | rfl)) ?_; refine tl_nil ?_; refine q_block_n (q_then_n ?_); refine tc_reg ?_; refine tlm ?_; refine tv (by first | exact o_addI rfl rfl (by omega) | exact o_add rfl rfl) ?_; refine tla ?_; refine nq ?_; exact ⟨_, by omega, i + 1, ys.set i (xf ys[i]), by omega, by rw [List.length_set]; exact hp1, rfl, rfl, rfl, rfl⟩
        · try simp only [lv1, lv2, lv3, lv4, lv5, lv6, Bool.not_true, Bool.not_false] at h
          refine tc_exit ?_; refine q_then_e (q_then_e (q_block_x (q_then_n ?_))); refine sr ?_; refine tla ?_; refine nq ?_; refine tc_ret ?_; exact ⟨.bool true, F * pt b (cl [.pointer (some ⟨d, 0, none⟩), .pointer (some ⟨r, 0, none⟩)] 88) * Dev d s17 * RDev r s17, res1 rfl rfl, Dr.sat (by repeat (first | with_reducible exact dr_refl | apply dr_keep | apply dr_drop)), s17, rfl, by rw [hs17], rfl⟩
theorem rda_one {A : SP} {a : Option Addr} {n : Int} (h : Rs A a [.int .i64 n, .slice none 0 0]) : RdA A a [.slice none 0 0] [(n, [])] := ⟨h, rfl, fun i hi => by
  obtain rfl : i = 0 := by simp at hi; omega
  exact ⟨none, 0, rfl, Nat.le_refl _, rs_none⟩⟩
set_option maxRecDepth 20000 in
set_option maxHeartbeats 1000000 in
theorem tells_f (F : SP) {b d r : Nat} {s : DevS} {p : Int} (hp : -9223372036854775808 ≤ p ∧ p ≤ 9223372036854775807) :
    Fn Try.prog 115 #[.pointer (some ⟨b, 0, none⟩), .int .i64 p] (F * pt b (cl [.pointer (some ⟨d, 0, none⟩), .pointer (some ⟨r, 0, none⟩)] 88) * Dev d s * RDev r s) (fun v B => v = .bool true ∧ B = F * pt b (cl [.pointer (some ⟨d, 0, none⟩), .pointer (some ⟨r, 0, none⟩)] 88) * Dev d s * RDev r s) := by
  refine fn_enterW (args := [.pointer (some ⟨b, 0, none⟩), .int .i64 p]) Try.func115 rfl Try.ntmps115 (by simp) ?_; refine tc_have (fun _ _ h => rct_wf2 (by repeat (first | with_reducible exact ct_here | apply ct_left)) h) fun hwf => ?_
  obtain ⟨hrn, hrr⟩ := ctI_rows hwf p
  refine sr ?_; refine tla ?_; refine nq ?_; refine sr ?_; refine tlm ?_; refine tv (o_nilCheck rfl) ?_; refine tv (o_fieldAddr (o := 0) Try.underlying88 rfl rfl sz41 rfl) ?_; refine tv (by first | exact o_load p41 rfl (by repeat (first | with_reducible exact has_here | with_reducible exact has_pt | apply has_left)) rfl | exact o_loadC p41 rfl (by assumption)) ?_; refine tlm ?_; refine tl_c rfl (o_call bd35 rfl (Contents_I (p := p))) ?_; rintro _ _ ⟨a11, c11, vs11, rfl, hc11, rfl⟩; refine tla ?_; refine nq ?_; refine tc_seq ?_; refine tc_seq ?_; refine tc_regh mo dr_refl ?_
  show TH _ _ _ _ _ 48 #[ff,ff,ff,ff,ff,ff,ff,ff,ff,ff,ff,ff,ff,ff,ff,ff,ff,ff,ff,ff,ff,ff,ff,ff,ff,ff,ff,ff,ff,ff,ff,ff,ff,ff,ff,ff,ff,ff,ff,ff,ff,ff,ff,ff,ff,ff,ff,ff] _ _
  refine th_take (i := 0) (listed' := #[tt,ff,ff,ff,ff,ff,ff,ff,ff,ff,ff,ff,ff,ff,ff,ff,ff,ff,ff,ff,ff,ff,ff,ff,ff,ff,ff,ff,ff,ff,ff,ff,ff,ff,ff,ff,ff,ff,ff,ff,ff,ff,ff,ff,ff,ff,ff,ff]) rfl (by kernel_rfl) (by kernel_rfl) (by kernel_rfl) rfl rfl (o_move (by conv => lhs; whnf)) ?_; refine th_take (i := 1) (listed' := #[tt,tt,ff,ff,ff,ff,ff,ff,ff,ff,ff,ff,ff,ff,ff,ff,ff,ff,ff,ff,ff,ff,ff,ff,ff,ff,ff,ff,ff,ff,ff,ff,ff,ff,ff,ff,ff,ff,ff,ff,ff,ff,ff,ff,ff,ff,ff,ff]) rfl (by kernel_rfl) (by kernel_rfl) (by kernel_rfl) rfl rfl (o_nilCheck rfl) ?_; refine th_take (i := 2) (listed' := #[tt,tt,tt,ff,ff,ff,ff,ff,ff,ff,ff,ff,ff,ff,ff,ff,ff,ff,ff,ff,ff,ff,ff,ff,ff,ff,ff,ff,ff,ff,ff,ff,ff,ff,ff,ff,ff,ff,ff,ff,ff,ff,ff,ff,ff,ff,ff,ff]) rfl (by kernel_rfl) (by kernel_rfl) (by kernel_rfl) rfl rfl (o_fieldAddr (o := 0) Try.underlying88 rfl rfl sz41 rfl) ?_; refine th_take (i := 3) (listed' := #[tt,tt,tt,tt,ff,ff,ff,ff,ff,ff,ff,ff,ff,ff,ff,ff,ff,ff,ff,ff,ff,ff,ff,ff,ff,ff,ff,ff,ff,ff,ff,ff,ff,ff,ff,ff,ff,ff,ff,ff,ff,ff,ff,ff,ff,ff,ff,ff]) rfl (by kernel_rfl) (by kernel_rfl) (by kernel_rfl) rfl rfl (by first | exact o_load p41 rfl (by repeat (first | with_reducible exact has_here | with_reducible exact has_pt | apply has_left)) rfl | exact o_loadC p41 rfl (by assumption)) ?_; refine th_take (i := 5) (listed' := #[tt,tt,tt,tt,ff,tt,ff,ff,ff,ff,ff,ff,ff,ff,ff,ff,ff,ff,ff,ff,ff,ff,ff,ff,ff,ff,ff,ff,ff,ff,ff,ff,ff,ff,ff,ff,ff,ff,ff,ff,ff,ff,ff,ff,ff,ff,ff,ff]) rfl (by kernel_rfl) (by kernel_rfl) (by kernel_rfl) rfl rfl (o_move (by conv => lhs; whnf)) ?_
  refine th_take (i := 6) (listed' := #[tt,tt,tt,tt,ff,tt,tt,ff,ff,ff,ff,ff,ff,ff,ff,ff,ff,ff,ff,ff,ff,ff,ff,ff,ff,ff,ff,ff,ff,ff,ff,ff,ff,ff,ff,ff,ff,ff,ff,ff,ff,ff,ff,ff,ff,ff,ff,ff]) rfl (by kernel_rfl) (by kernel_rfl) (by kernel_rfl) rfl rfl (o_nilCheck rfl) ?_; refine th_take (i := 7) (listed' := #[tt,tt,tt,tt,ff,tt,tt,tt,ff,ff,ff,ff,ff,ff,ff,ff,ff,ff,ff,ff,ff,ff,ff,ff,ff,ff,ff,ff,ff,ff,ff,ff,ff,ff,ff,ff,ff,ff,ff,ff,ff,ff,ff,ff,ff,ff,ff,ff]) rfl (by kernel_rfl) (by kernel_rfl) (by kernel_rfl) rfl rfl (o_fieldAddr (o := 1) Try.underlying88 rfl rfl sz86 rfl) ?_; refine th_take (i := 8) (listed' := #[tt,tt,tt,tt,ff,tt,tt,tt,tt,ff,ff,ff,ff,ff,ff,ff,ff,ff,ff,ff,ff,ff,ff,ff,ff,ff,ff,ff,ff,ff,ff,ff,ff,ff,ff,ff,ff,ff,ff,ff,ff,ff,ff,ff,ff,ff,ff,ff]) rfl (by kernel_rfl) (by kernel_rfl) (by kernel_rfl) rfl rfl (by first | exact o_load p86 rfl (by repeat (first | with_reducible exact has_here | with_reducible exact has_pt | apply has_left)) rfl | exact o_loadC p86 rfl (by assumption)) ?_; refine th_one (i := 4) (by kernel_rfl) ?_; refine oh_c (i := 4) (listed' := #[tt,tt,tt,tt,tt,tt,tt,tt,tt,ff,ff,ff,ff,ff,ff,ff,ff,ff,ff,ff,ff,ff,ff,ff,ff,ff,ff,ff,ff,ff,ff,ff,ff,ff,ff,ff,ff,ff,ff,ff,ff,ff,ff,ff,ff,ff,ff,ff]) rfl rfl rfl (o_call bd41 rfl (Ops_c)) ?_; rintro _ _ ⟨rfl, rfl⟩; refine ⟨by repeat (first | with_reducible exact dr_refl | apply dr_keep | apply dr_drop), ?_⟩; refine th_one (i := 9) (by kernel_rfl) ?_; refine oh_c (i := 9) (listed' := #[tt,tt,tt,tt,tt,tt,tt,tt,tt,tt,ff,ff,ff,ff,ff,ff,ff,ff,ff,ff,ff,ff,ff,ff,ff,ff,ff,ff,ff,ff,ff,ff,ff,ff,ff,ff,ff,ff,ff,ff,ff,ff,ff,ff,ff,ff,ff,ff]) rfl rfl rfl (o_call bd69 rfl (rOps_c)) ?_
  rintro _ _ ⟨rfl, rfl⟩; refine ⟨by repeat (first | with_reducible exact dr_refl | apply dr_keep | apply dr_drop), ?_⟩; refine th_take (i := 10) (listed' := #[tt,tt,tt,tt,tt,tt,tt,tt,tt,tt,tt,ff,ff,ff,ff,ff,ff,ff,ff,ff,ff,ff,ff,ff,ff,ff,ff,ff,ff,ff,ff,ff,ff,ff,ff,ff,ff,ff,ff,ff,ff,ff,ff,ff,ff,ff,ff,ff]) rfl (by kernel_rfl) (by kernel_rfl) (by kernel_rfl) rfl rfl (o_nei rfl rfl) ?_; refine th_take (i := 11) (listed' := #[tt,tt,tt,tt,tt,tt,tt,tt,tt,tt,tt,tt,ff,ff,ff,ff,ff,ff,ff,ff,ff,ff,ff,ff,ff,ff,ff,ff,ff,ff,ff,ff,ff,ff,ff,ff,ff,ff,ff,ff,ff,ff,ff,ff,ff,ff,ff,ff]) rfl (by kernel_rfl) (by kernel_rfl) (by kernel_rfl) rfl rfl (o_move (by conv => lhs; whnf)) ?_; refine th_bool (d := 23) rfl (fun h => ?_) (fun h => ?_)
  · exfalso; simp at h
  · try simp only [lv1, lv2, lv3, lv4, lv5, lv6, Bool.not_true, Bool.not_false] at h
    refine th_take (i := 12) (listed' := #[tt,tt,tt,tt,tt,tt,tt,tt,tt,tt,tt,tt,tt,ff,ff,ff,ff,ff,ff,ff,ff,ff,ff,ff,ff,ff,ff,ff,ff,ff,ff,ff,ff,ff,ff,ff,ff,ff,ff,ff,ff,ff,ff,ff,ff,ff,ff,ff]) rfl (by kernel_rfl) (by kernel_rfl) (by kernel_rfl) rfl rfl (o_move (by conv => lhs; whnf)) ?_; refine th_take (i := 13) (listed' := #[tt,tt,tt,tt,tt,tt,tt,tt,tt,tt,tt,tt,tt,tt,ff,ff,ff,ff,ff,ff,ff,ff,ff,ff,ff,ff,ff,ff,ff,ff,ff,ff,ff,ff,ff,ff,ff,ff,ff,ff,ff,ff,ff,ff,ff,ff,ff,ff]) rfl (by kernel_rfl) (by kernel_rfl) (by kernel_rfl) rfl rfl (o_nilCheck rfl) ?_; refine th_take (i := 14) (listed' := #[tt,tt,tt,tt,tt,tt,tt,tt,tt,tt,tt,tt,tt,tt,tt,ff,ff,ff,ff,ff,ff,ff,ff,ff,ff,ff,ff,ff,ff,ff,ff,ff,ff,ff,ff,ff,ff,ff,ff,ff,ff,ff,ff,ff,ff,ff,ff,ff]) rfl (by kernel_rfl) (by kernel_rfl) (by kernel_rfl) rfl rfl (o_fieldAddr (o := 0) Try.underlying88 rfl rfl sz41 rfl) ?_; refine th_take (i := 15) (listed' := #[tt,tt,tt,tt,tt,tt,tt,tt,tt,tt,tt,tt,tt,tt,tt,tt,ff,ff,ff,ff,ff,ff,ff,ff,ff,ff,ff,ff,ff,ff,ff,ff,ff,ff,ff,ff,ff,ff,ff,ff,ff,ff,ff,ff,ff,ff,ff,ff]) rfl (by kernel_rfl) (by kernel_rfl) (by kernel_rfl) rfl rfl (by first | exact o_load p41 rfl (by repeat (first | with_reducible exact has_here | with_reducible exact has_pt | apply has_left)) rfl | exact o_loadC p41 rfl (by assumption)) ?_; refine th_take (i := 17) (listed' := #[tt,tt,tt,tt,tt,tt,tt,tt,tt,tt,tt,tt,tt,tt,tt,tt,ff,tt,ff,ff,ff,ff,ff,ff,ff,ff,ff,ff,ff,ff,ff,ff,ff,ff,ff,ff,ff,ff,ff,ff,ff,ff,ff,ff,ff,ff,ff,ff]) rfl (by kernel_rfl) (by kernel_rfl) (by kernel_rfl) rfl rfl (o_move (by conv => lhs; whnf)) ?_
    refine th_take (i := 18) (listed' := #[tt,tt,tt,tt,tt,tt,tt,tt,tt,tt,tt,tt,tt,tt,tt,tt,ff,tt,tt,ff,ff,ff,ff,ff,ff,ff,ff,ff,ff,ff,ff,ff,ff,ff,ff,ff,ff,ff,ff,ff,ff,ff,ff,ff,ff,ff,ff,ff]) rfl (by kernel_rfl) (by kernel_rfl) (by kernel_rfl) rfl rfl (o_nilCheck rfl) ?_; refine th_take (i := 19) (listed' := #[tt,tt,tt,tt,tt,tt,tt,tt,tt,tt,tt,tt,tt,tt,tt,tt,ff,tt,tt,tt,ff,ff,ff,ff,ff,ff,ff,ff,ff,ff,ff,ff,ff,ff,ff,ff,ff,ff,ff,ff,ff,ff,ff,ff,ff,ff,ff,ff]) rfl (by kernel_rfl) (by kernel_rfl) (by kernel_rfl) rfl rfl (o_fieldAddr (o := 1) Try.underlying88 rfl rfl sz86 rfl) ?_; refine th_take (i := 20) (listed' := #[tt,tt,tt,tt,tt,tt,tt,tt,tt,tt,tt,tt,tt,tt,tt,tt,ff,tt,tt,tt,tt,ff,ff,ff,ff,ff,ff,ff,ff,ff,ff,ff,ff,ff,ff,ff,ff,ff,ff,ff,ff,ff,ff,ff,ff,ff,ff,ff]) rfl (by kernel_rfl) (by kernel_rfl) (by kernel_rfl) rfl rfl (by first | exact o_load p86 rfl (by repeat (first | with_reducible exact has_here | with_reducible exact has_pt | apply has_left)) rfl | exact o_loadC p86 rfl (by assumption)) ?_; refine th_one (i := 16) (by kernel_rfl) ?_; refine oh_c (i := 16) (listed' := #[tt,tt,tt,tt,tt,tt,tt,tt,tt,tt,tt,tt,tt,tt,tt,tt,tt,tt,tt,tt,tt,ff,ff,ff,ff,ff,ff,ff,ff,ff,ff,ff,ff,ff,ff,ff,ff,ff,ff,ff,ff,ff,ff,ff,ff,ff,ff,ff]) rfl rfl rfl (o_call bd31 rfl (Off_c)) ?_; rintro _ _ ⟨rfl, rfl⟩; refine ⟨by repeat (first | with_reducible exact dr_refl | apply dr_keep | apply dr_drop), ?_⟩; refine th_one (i := 21) (by kernel_rfl) ?_; refine oh_c (i := 21) (listed' := #[tt,tt,tt,tt,tt,tt,tt,tt,tt,tt,tt,tt,tt,tt,tt,tt,tt,tt,tt,tt,tt,tt,ff,ff,ff,ff,ff,ff,ff,ff,ff,ff,ff,ff,ff,ff,ff,ff,ff,ff,ff,ff,ff,ff,ff,ff,ff,ff]) rfl rfl rfl (o_call bd79 rfl (rOff_c)) ?_
    rintro _ _ ⟨rfl, rfl⟩; refine ⟨by repeat (first | with_reducible exact dr_refl | apply dr_keep | apply dr_drop), ?_⟩; refine th_take (i := 22) (listed' := #[tt,tt,tt,tt,tt,tt,tt,tt,tt,tt,tt,tt,tt,tt,tt,tt,tt,tt,tt,tt,tt,tt,tt,ff,ff,ff,ff,ff,ff,ff,ff,ff,ff,ff,ff,ff,ff,ff,ff,ff,ff,ff,ff,ff,ff,ff,ff,ff]) rfl (by kernel_rfl) (by kernel_rfl) (by kernel_rfl) rfl rfl (o_neb Try.underlying4 rfl rfl) ?_; refine th_take (i := 23) (listed' := #[tt,tt,tt,tt,tt,tt,tt,tt,tt,tt,tt,tt,tt,tt,tt,tt,tt,tt,tt,tt,tt,tt,tt,tt,ff,ff,ff,ff,ff,ff,ff,ff,ff,ff,ff,ff,ff,ff,ff,ff,ff,ff,ff,ff,ff,ff,ff,ff]) rfl (by kernel_rfl) (by kernel_rfl) (by kernel_rfl) rfl rfl (o_pick_f rfl (by conv => lhs; whnf)) ?_; refine th_take (i := 24) (listed' := #[tt,tt,tt,tt,tt,tt,tt,tt,tt,tt,tt,tt,tt,tt,tt,tt,tt,tt,tt,tt,tt,tt,tt,tt,tt,ff,ff,ff,ff,ff,ff,ff,ff,ff,ff,ff,ff,ff,ff,ff,ff,ff,ff,ff,ff,ff,ff,ff]) rfl (by kernel_rfl) (by kernel_rfl) (by kernel_rfl) rfl rfl (o_move (by conv => lhs; whnf)) ?_; refine th_bool (d := 36) rfl (fun h => ?_) (fun h => ?_)
    · exfalso; simp at h
    · try simp only [lv1, lv2, lv3, lv4, lv5, lv6, Bool.not_true, Bool.not_false] at h
      refine th_take (i := 25) (listed' := #[tt,tt,tt,tt,tt,tt,tt,tt,tt,tt,tt,tt,tt,tt,tt,tt,tt,tt,tt,tt,tt,tt,tt,tt,tt,tt,ff,ff,ff,ff,ff,ff,ff,ff,ff,ff,ff,ff,ff,ff,ff,ff,ff,ff,ff,ff,ff,ff]) rfl (by kernel_rfl) (by kernel_rfl) (by kernel_rfl) rfl rfl (o_move (by conv => lhs; whnf)) ?_; refine th_take (i := 26) (listed' := #[tt,tt,tt,tt,tt,tt,tt,tt,tt,tt,tt,tt,tt,tt,tt,tt,tt,tt,tt,tt,tt,tt,tt,tt,tt,tt,tt,ff,ff,ff,ff,ff,ff,ff,ff,ff,ff,ff,ff,ff,ff,ff,ff,ff,ff,ff,ff,ff]) rfl (by kernel_rfl) (by kernel_rfl) (by kernel_rfl) rfl rfl (o_nilCheck rfl) ?_; refine th_take (i := 27) (listed' := #[tt,tt,tt,tt,tt,tt,tt,tt,tt,tt,tt,tt,tt,tt,tt,tt,tt,tt,tt,tt,tt,tt,tt,tt,tt,tt,tt,tt,ff,ff,ff,ff,ff,ff,ff,ff,ff,ff,ff,ff,ff,ff,ff,ff,ff,ff,ff,ff]) rfl (by kernel_rfl) (by kernel_rfl) (by kernel_rfl) rfl rfl (o_fieldAddr (o := 0) Try.underlying88 rfl rfl sz41 rfl) ?_; refine th_take (i := 28) (listed' := #[tt,tt,tt,tt,tt,tt,tt,tt,tt,tt,tt,tt,tt,tt,tt,tt,tt,tt,tt,tt,tt,tt,tt,tt,tt,tt,tt,tt,tt,ff,ff,ff,ff,ff,ff,ff,ff,ff,ff,ff,ff,ff,ff,ff,ff,ff,ff,ff]) rfl (by kernel_rfl) (by kernel_rfl) (by kernel_rfl) rfl rfl (by first | exact o_load p41 rfl (by repeat (first | with_reducible exact has_here | with_reducible exact has_pt | apply has_left)) rfl | exact o_loadC p41 rfl (by assumption)) ?_; refine th_take (i := 30) (listed' := #[tt,tt,tt,tt,tt,tt,tt,tt,tt,tt,tt,tt,tt,tt,tt,tt,tt,tt,tt,tt,tt,tt,tt,tt,tt,tt,tt,tt,tt,ff,tt,ff,ff,ff,ff,ff,ff,ff,ff,ff,ff,ff,ff,ff,ff,ff,ff,ff]) rfl (by kernel_rfl) (by kernel_rfl) (by kernel_rfl) rfl rfl (o_move (by conv => lhs; whnf)) ?_
      refine th_take (i := 31) (listed' := #[tt,tt,tt,tt,tt,tt,tt,tt,tt,tt,tt,tt,tt,tt,tt,tt,tt,tt,tt,tt,tt,tt,tt,tt,tt,tt,tt,tt,tt,ff,tt,tt,ff,ff,ff,ff,ff,ff,ff,ff,ff,ff,ff,ff,ff,ff,ff,ff]) rfl (by kernel_rfl) (by kernel_rfl) (by kernel_rfl) rfl rfl (o_nilCheck rfl) ?_; refine th_take (i := 32) (listed' := #[tt,tt,tt,tt,tt,tt,tt,tt,tt,tt,tt,tt,tt,tt,tt,tt,tt,tt,tt,tt,tt,tt,tt,tt,tt,tt,tt,tt,tt,ff,tt,tt,tt,ff,ff,ff,ff,ff,ff,ff,ff,ff,ff,ff,ff,ff,ff,ff]) rfl (by kernel_rfl) (by kernel_rfl) (by kernel_rfl) rfl rfl (o_fieldAddr (o := 1) Try.underlying88 rfl rfl sz86 rfl) ?_; refine th_take (i := 33) (listed' := #[tt,tt,tt,tt,tt,tt,tt,tt,tt,tt,tt,tt,tt,tt,tt,tt,tt,tt,tt,tt,tt,tt,tt,tt,tt,tt,tt,tt,tt,ff,tt,tt,tt,tt,ff,ff,ff,ff,ff,ff,ff,ff,ff,ff,ff,ff,ff,ff]) rfl (by kernel_rfl) (by kernel_rfl) (by kernel_rfl) rfl rfl (by first | exact o_load p86 rfl (by repeat (first | with_reducible exact has_here | with_reducible exact has_pt | apply has_left)) rfl | exact o_loadC p86 rfl (by assumption)) ?_; refine th_one (i := 29) (by kernel_rfl) ?_; refine oh_c (i := 29) (listed' := #[tt,tt,tt,tt,tt,tt,tt,tt,tt,tt,tt,tt,tt,tt,tt,tt,tt,tt,tt,tt,tt,tt,tt,tt,tt,tt,tt,tt,tt,tt,tt,tt,tt,tt,ff,ff,ff,ff,ff,ff,ff,ff,ff,ff,ff,ff,ff,ff]) rfl rfl rfl (o_call bd94 rfl (Size_c)) ?_; rintro _ _ ⟨rfl, rfl⟩; refine ⟨by repeat (first | with_reducible exact dr_refl | apply dr_keep | apply dr_drop), ?_⟩; refine th_one (i := 34) (by kernel_rfl) ?_; refine oh_c (i := 34) (listed' := #[tt,tt,tt,tt,tt,tt,tt,tt,tt,tt,tt,tt,tt,tt,tt,tt,tt,tt,tt,tt,tt,tt,tt,tt,tt,tt,tt,tt,tt,tt,tt,tt,tt,tt,tt,ff,ff,ff,ff,ff,ff,ff,ff,ff,ff,ff,ff,ff]) rfl rfl rfl (o_call bd141 rfl (rSize_c)) ?_
      rintro _ _ ⟨rfl, rfl⟩; refine ⟨by repeat (first | with_reducible exact dr_refl | apply dr_keep | apply dr_drop), ?_⟩; refine th_take (i := 35) (listed' := #[tt,tt,tt,tt,tt,tt,tt,tt,tt,tt,tt,tt,tt,tt,tt,tt,tt,tt,tt,tt,tt,tt,tt,tt,tt,tt,tt,tt,tt,tt,tt,tt,tt,tt,tt,tt,ff,ff,ff,ff,ff,ff,ff,ff,ff,ff,ff,ff]) rfl (by kernel_rfl) (by kernel_rfl) (by kernel_rfl) rfl rfl (o_nei rfl rfl) ?_; refine th_take (i := 36) (listed' := #[tt,tt,tt,tt,tt,tt,tt,tt,tt,tt,tt,tt,tt,tt,tt,tt,tt,tt,tt,tt,tt,tt,tt,tt,tt,tt,tt,tt,tt,tt,tt,tt,tt,tt,tt,tt,tt,ff,ff,ff,ff,ff,ff,ff,ff,ff,ff,ff]) rfl (by kernel_rfl) (by kernel_rfl) (by kernel_rfl) rfl rfl (o_pick_f rfl (by conv => lhs; whnf)) ?_; refine th_take (i := 37) (listed' := #[tt,tt,tt,tt,tt,tt,tt,tt,tt,tt,tt,tt,tt,tt,tt,tt,tt,tt,tt,tt,tt,tt,tt,tt,tt,tt,tt,tt,tt,tt,tt,tt,tt,tt,tt,tt,tt,tt,ff,ff,ff,ff,ff,ff,ff,ff,ff,ff]) rfl (by kernel_rfl) (by kernel_rfl) (by kernel_rfl) rfl rfl (o_move (by conv => lhs; whnf)) ?_; refine th_bool (d := 49) rfl (fun h => ?_) (fun h => ?_)
      · exfalso; simp at h; try omega
      · try simp only [lv1, lv2, lv3, lv4, lv5, lv6, Bool.not_true, Bool.not_false] at h
        refine th_take (i := 38) (listed' := #[tt,tt,tt,tt,tt,tt,tt,tt,tt,tt,tt,tt,tt,tt,tt,tt,tt,tt,tt,tt,tt,tt,tt,tt,tt,tt,tt,tt,tt,tt,tt,tt,tt,tt,tt,tt,tt,tt,tt,ff,ff,ff,ff,ff,ff,ff,ff,ff]) rfl (by kernel_rfl) (by kernel_rfl) (by kernel_rfl) rfl rfl (o_move (by conv => lhs; whnf)) ?_; refine th_take (i := 39) (listed' := #[tt,tt,tt,tt,tt,tt,tt,tt,tt,tt,tt,tt,tt,tt,tt,tt,tt,tt,tt,tt,tt,tt,tt,tt,tt,tt,tt,tt,tt,tt,tt,tt,tt,tt,tt,tt,tt,tt,tt,tt,ff,ff,ff,ff,ff,ff,ff,ff]) rfl (by kernel_rfl) (by kernel_rfl) (by kernel_rfl) rfl rfl (o_move (by conv => lhs; whnf)) ?_; refine th_take (i := 40) (listed' := #[tt,tt,tt,tt,tt,tt,tt,tt,tt,tt,tt,tt,tt,tt,tt,tt,tt,tt,tt,tt,tt,tt,tt,tt,tt,tt,tt,tt,tt,tt,tt,tt,tt,tt,tt,tt,tt,tt,tt,tt,tt,ff,ff,ff,ff,ff,ff,ff]) rfl (by kernel_rfl) (by kernel_rfl) (by kernel_rfl) rfl rfl (o_nilCheck rfl) ?_; refine th_take (i := 41) (listed' := #[tt,tt,tt,tt,tt,tt,tt,tt,tt,tt,tt,tt,tt,tt,tt,tt,tt,tt,tt,tt,tt,tt,tt,tt,tt,tt,tt,tt,tt,tt,tt,tt,tt,tt,tt,tt,tt,tt,tt,tt,tt,tt,ff,ff,ff,ff,ff,ff]) rfl (by kernel_rfl) (by kernel_rfl) (by kernel_rfl) rfl rfl (o_fieldAddr (o := 1) Try.underlying88 rfl rfl sz86 rfl) ?_; refine th_take (i := 42) (listed' := #[tt,tt,tt,tt,tt,tt,tt,tt,tt,tt,tt,tt,tt,tt,tt,tt,tt,tt,tt,tt,tt,tt,tt,tt,tt,tt,tt,tt,tt,tt,tt,tt,tt,tt,tt,tt,tt,tt,tt,tt,tt,tt,tt,ff,ff,ff,ff,ff]) rfl (by kernel_rfl) (by kernel_rfl) (by kernel_rfl) rfl rfl (by first | exact o_load p86 rfl (by repeat (first | with_reducible exact has_here | with_reducible exact has_pt | apply has_left)) rfl | exact o_loadC p86 rfl (by assumption)) ?_
        refine th_take (i := 43) (listed' := #[tt,tt,tt,tt,tt,tt,tt,tt,tt,tt,tt,tt,tt,tt,tt,tt,tt,tt,tt,tt,tt,tt,tt,tt,tt,tt,tt,tt,tt,tt,tt,tt,tt,tt,tt,tt,tt,tt,tt,tt,tt,tt,tt,tt,ff,ff,ff,ff]) rfl (by kernel_rfl) (by kernel_rfl) (by kernel_rfl) rfl rfl (o_move (by conv => lhs; whnf)) ?_; refine th_one (i := 44) (by kernel_rfl) ?_; refine oh_c (i := 44) (listed' := #[tt,tt,tt,tt,tt,tt,tt,tt,tt,tt,tt,tt,tt,tt,tt,tt,tt,tt,tt,tt,tt,tt,tt,tt,tt,tt,tt,tt,tt,tt,tt,tt,tt,tt,tt,tt,tt,tt,tt,tt,tt,tt,tt,tt,tt,ff,ff,ff]) rfl rfl rfl (o_call bd82 rfl (rContents_I (p := p))) ?_; rintro _ _ ⟨a56, c56, vs56, rfl, hc56, rfl⟩; refine ⟨by repeat (first | with_reducible exact dr_refl | apply dr_keep | apply dr_drop), ?_⟩; refine th_have (fun _ _ h => rwF_parts (F := F * pt b (cl [.pointer (some ⟨d, 0, none⟩), .pointer (some ⟨r, 0, none⟩)] 88) * Dev d s * RDev r s * Parts vs11 (ctI p s) * Sl 1 (.slice a11 (ctI p s).length c11) (ctI p s).length vs11) h) fun hw2 => ?_; refine th_have (fun _ _ h => rwF_parts (F := F * pt b (cl [.pointer (some ⟨d, 0, none⟩), .pointer (some ⟨r, 0, none⟩)] 88) * Dev d s * RDev r s) h.left.left) fun hw1 => ?_; refine th_one (i := 45) (by kernel_rfl) ?_; refine oh_c (i := 45) (listed' := #[tt,tt,tt,tt,tt,tt,tt,tt,tt,tt,tt,tt,tt,tt,tt,tt,tt,tt,tt,tt,tt,tt,tt,tt,tt,tt,tt,tt,tt,tt,tt,tt,tt,tt,tt,tt,tt,tt,tt,tt,tt,tt,tt,tt,tt,tt,ff,ff]) rfl rfl rfl (o_call bd81 rfl (EqRows_c hw1.left.left hw2 rfl rfl (by omega) (by omega) (fun l hl => by rw [hrr l hl]; decide) (fun l hl => by rw [hrr l hl]; decide))) ?_
        rintro _ _ ⟨rfl, rfl⟩; refine ⟨by repeat (first | with_reducible exact dr_refl | apply dr_keep | apply dr_drop), ?_⟩; refine th_take (i := 46) (listed' := #[tt,tt,tt,tt,tt,tt,tt,tt,tt,tt,tt,tt,tt,tt,tt,tt,tt,tt,tt,tt,tt,tt,tt,tt,tt,tt,tt,tt,tt,tt,tt,tt,tt,tt,tt,tt,tt,tt,tt,tt,tt,tt,tt,tt,tt,tt,tt,ff]) rfl (by kernel_rfl) (by kernel_rfl) (by kernel_rfl) rfl rfl (o_not rfl) ?_; refine th_take (i := 47) (listed' := #[tt,tt,tt,tt,tt,tt,tt,tt,tt,tt,tt,tt,tt,tt,tt,tt,tt,tt,tt,tt,tt,tt,tt,tt,tt,tt,tt,tt,tt,tt,tt,tt,tt,tt,tt,tt,tt,tt,tt,tt,tt,tt,tt,tt,tt,tt,tt,tt]) rfl (by kernel_rfl) (by kernel_rfl) (by kernel_rfl) rfl rfl (o_pick_f rfl (by conv => lhs; whnf)) ?_; refine th_done (by kernel_rfl) ?_; refine q_then_n ?_; refine tc_cond rfl (fun h => ?_) (fun h => ?_)
        · exfalso; simp at h
        · try simp only [lv1, lv2, lv3, lv4, lv5, lv6, Bool.not_true, Bool.not_false] at h
          refine tc_skip ?_; refine q_then_n ?_; refine tc_seq ?_; refine sr ?_; refine tlm ?_; refine tv (o_len Try.underlying33 rfl) ?_; refine tv (o_gtr rfl rfl) ?_; refine nq ?_; refine tc_cond rfl (fun h => ?_) (fun h => ?_)
          · have hn40 : 40 ≤ (ctI p s).length := by simp at h; omega
            refine tc_reg ?_; refine tlm ?_; refine tv (o_slice (l := 0) (h := 40) Try.underlying33 sz28 rfl bnd_none (bnd_nat rfl) (by omega) (by omega)) ?_; refine tl_env (d := 64) (v := .slice a11 40 c11) (by show Value.slice (cutAddr _ _ 0 1) (40 - 0) (c11 - 0) = _; rw [cut_none]; rfl) ?_; refine tla ?_; refine nq ?_; refine sr ?_; refine tlm ?_; refine tl_c rfl (o_call bd23 rfl ((fun g w h => Apart_c (F := F * pt b (cl [.pointer (some ⟨d, 0, none⟩), .pointer (some ⟨r, 0, none⟩)] 88) * Dev d s * RDev r s) (a := a11) (c := c11) (vs := vs11.take 40) ((ctI p s).take 40) (by rw [List.length_take]; omega) (by omega) (fun l hl => by rw [hrr l (List.mem_of_mem_take hl)]; decide) g w (rows_take (A := F * pt b (cl [.pointer (some ⟨d, 0, none⟩), .pointer (some ⟨r, 0, none⟩)] 88) * Dev d s * RDev r s) rfl (Dr.sat (by repeat (first | with_reducible exact dr_refl | apply dr_keep | apply dr_drop)) g w h) hn40)))) ?_; rintro _ _ ⟨rfl, rfl⟩; refine tla ?_; refine nq ?_; refine tc_ret ?_; refine ⟨.bool true, _, res1 rfl rfl, ?_, rfl, rfl⟩; exact Dr.sat (by repeat (first | with_reducible exact dr_refl | apply dr_keep | apply dr_drop))
          · have hn40 : (ctI p s).length ≤ 40 := by simp at h; omega
            refine tc_skip ?_; refine q_then_n ?_; refine sr ?_; refine tlm ?_; refine tl_c rfl (o_call bd23 rfl ((fun g w h => Apart_c (F := F * pt b (cl [.pointer (some ⟨d, 0, none⟩), .pointer (some ⟨r, 0, none⟩)] 88) * Dev d s * RDev r s) (a := a11) (c := c11) (vs := vs11) (ctI p s) rfl (by omega) (fun l hl => by rw [hrr l hl]; decide) g w (Dr.sat (by repeat (first | with_reducible exact dr_refl | apply dr_keep | apply dr_drop)) g w h)))) ?_; rintro _ _ ⟨rfl, rfl⟩; refine tla ?_; refine nq ?_; refine tc_ret ?_; refine ⟨.bool true, _, res1 rfl rfl, ?_, rfl, rfl⟩; exact Dr.sat (by repeat (first | with_reducible exact dr_refl | apply dr_keep | apply dr_drop))
set_option maxRecDepth 20000 in
set_option maxHeartbeats 1000000 in
theorem copied_f (F : SP) {b d r : Nat} {s : DevS} (hroom : Room 1 s) :
    Fn Try.prog 116 #[.pointer (some ⟨b, 0, none⟩)] (F * pt b (cl [.pointer (some ⟨d, 0, none⟩), .pointer (some ⟨r, 0, none⟩)] 88) * Dev d s * RDev r s) (fun v B => ∃ d2, v = .bool true ∧ B = F * pt b (cl [.pointer (some ⟨d2, 0, none⟩), .pointer (some ⟨r, 0, none⟩)] 88) * Dev d2 s * RDev r s) := by
  refine fn_enterW (args := [.pointer (some ⟨b, 0, none⟩)]) Try.func116 rfl Try.ntmps116 (by simp) ?_; refine sr ?_; refine tla ?_; refine nq ?_; refine sr ?_; refine tlm ?_; refine tv (o_nilCheck rfl) ?_; refine tv (o_fieldAddr (o := 0) Try.underlying88 rfl rfl sz41 rfl) ?_; refine tv (by first | exact o_load p41 rfl (by repeat (first | with_reducible exact has_here | with_reducible exact has_pt | apply has_left)) rfl | exact o_loadC p41 rfl (by assumption)) ?_; refine tl_c rfl (o_call bd38 rfl (Copy_c)) ?_; rintro _ _ ⟨d8, rfl, rfl⟩; refine tla ?_; refine nq ?_; refine tc_seq ?_; refine sr ?_; refine tlm ?_; refine tv (o_eqp Try.underlying41 rfl rfl) ?_; refine nq ?_; refine tc_cond rfl (fun h => ?_) (fun h => ?_)
  · exfalso; simp at h
  · try simp only [lv1, lv2, lv3, lv4, lv5, lv6, Bool.not_true, Bool.not_false] at h
    refine tc_skip ?_; refine q_then_n ?_; refine sr ?_; refine tlm ?_; refine tv (o_nilCheck rfl) ?_; refine tv (o_fieldAddr (o := 0) Try.underlying88 rfl rfl sz41 rfl) ?_; refine tv (by first | exact o_load p41 rfl (by repeat (first | with_reducible exact has_here | with_reducible exact has_pt | apply has_left)) rfl | exact o_loadC p41 rfl (by assumption)) ?_; refine tl_c rfl (o_call bd32 rfl (Wake_c)) ?_; rintro _ _ ⟨rfl, rfl⟩; refine nq ?_; refine sr ?_; refine tlm ?_; refine tv (o_nilCheck rfl) ?_; refine tv (o_fieldAddr (o := 0) Try.underlying88 rfl rfl sz41 rfl) ?_; refine tv (by first | exact o_load p41 rfl (by repeat (first | with_reducible exact has_here | with_reducible exact has_pt | apply has_left)) rfl | exact o_loadC p41 rfl (by assumption)) ?_; refine tl_c rfl (o_call bd40 rfl (Store8_c (s := { s with off := false }) (v := 1234605616436508552) (p := 0) (hroom := hroom))) ?_; rintro _ _ ⟨e20, s20, hs20, rfl, rfl⟩; refine nq ?_; refine sr ?_; refine tlm ?_; refine tv (o_nilCheck rfl) ?_; refine tv (o_fieldAddr (o := 0) Try.underlying88 rfl rfl sz41 rfl) ?_; refine tv (by first | exact o_load p41 rfl (by repeat (first | with_reducible exact has_here | with_reducible exact has_pt | apply has_left)) rfl | exact o_loadC p41 rfl (by assumption)) ?_; refine tl_c rfl (o_call bd47 rfl (Fence_c)) ?_
    rintro _ _ ⟨e25, s25, hs25, rfl, rfl⟩; refine nq ?_; refine sr ?_; refine tlm ?_; refine tv (o_nilCheck rfl) ?_; refine tv (o_fieldAddr (o := 0) Try.underlying88 rfl rfl sz41 rfl) ?_; refine tv (by first | exact o_load p41 rfl (by repeat (first | with_reducible exact has_here | with_reducible exact has_pt | apply has_left)) rfl | exact o_loadC p41 rfl (by assumption)) ?_; refine tv (o_bS (l := [_, _]) (pv_cons (by conv => lhs; whnf) pv_nil) Try.underlying72 z72 (pl72 Try.underlying72) rfl) ?_; refine tl_x rfl (o_buildSliceK (k := 2) (l := [.int .i64 1, .slice none 0 0]) Try.underlying74 sz72 z72 rfl rfl (by decide)) ?_; rintro _ _ ⟨b31, rfl, rfl⟩; refine tl_c rfl (o_call bd44 rfl (Arm_c (kvs := [.slice none 0 0]) (ars := [(1, [])]) (hr := rda_one rs_pt0) (hk := fun x hx => by rw [List.mem_singleton.1 hx]; exact ⟨by decide, by decide, fun k hk => by simp at hk⟩))) ?_; rintro _ _ ⟨e32, s32, hs32, rfl, rfl⟩; refine nq ?_; refine sr ?_; refine tlm ?_; refine tv (o_nilCheck rfl) ?_; refine tv (o_fieldAddr (o := 0) Try.underlying88 rfl rfl sz41 rfl) ?_; refine tv (by first | exact o_load p41 rfl (by repeat (first | with_reducible exact has_here | with_reducible exact has_pt | apply has_left)) rfl | exact o_loadC p41 rfl (by assumption)) ?_; refine tl_x rfl (o_buildSliceL (k := 1) (vs := ints [3, 3, 3]) (l := ints [3, 3, 3]) Try.underlying37 sz3 z3 rfl rfl (by decide) (by decide) (by intro v hv; have := List.all_eq_true.1 (ints_all [3, 3, 3]) v hv; cases v <;> first | (simp [oneC] at this; done) | rfl) rfl) ?_
    rintro _ _ ⟨b37, rfl, rfl⟩; refine tl_c rfl (o_call bd28 rfl (Crash_c (keep := [3, 3, 3]) (hr := rs_pt0) (hk := by decide) (hm := rfl))) ?_; rintro _ _ ⟨e38, s38, hs38, rfl, rfl⟩; refine nq ?_; refine sr ?_; refine tlm ?_; refine tlm ?_; refine tv (o_nilCheck rfl) ?_; refine tv (o_fieldAddr (o := 0) Try.underlying88 rfl rfl sz41 rfl) ?_; refine tl_u rfl (o_stU rfl (by repeat (first | with_reducible exact upd_here | with_reducible exact upd_pt | apply upd_left)) sz41 rfl rfl (by first | decide | simp | omega) rfl) ?_; refine nq ?_; refine sr ?_; refine tla ?_; refine nq ?_; refine tc_ret ?_; exact ⟨.bool true, F * pt b (cl [.pointer (some ⟨d8, 0, none⟩), .pointer (some ⟨r, 0, none⟩)] 88) * Dev d8 s * RDev r s, res1 rfl rfl, fun g w h => (Dr.sat (A' := F * pt b (cl [.pointer (some ⟨d8, 0, none⟩), .pointer (some ⟨r, 0, none⟩)] 88) * RDev r s * Dev d8 s) (by repeat (first | with_reducible exact dr_refl | apply dr_keep | apply dr_drop)) g w h).perm (star_swap _ _ _), d8, rfl, rfl⟩
end Go.Vl
