/- What the row rests on, part 5: a calculus of assertions, walks of functions over it, and plain laws. Conditions: none. -/
import Derived.Deep.QuietTactic
import Derived.BigQuiet
import Derived.WalkKit
import Derived.Test.YtpjjmbmmfelooaaGreatProg
import Derived.OrdersHeld
import Derived.Shelf.SortM.SortNone
import Derived.Shelf.SortM.Plain
import Derived.Ground.SlgmProg
import Derived.Shelf.SlIterI.Nil
import Derived.Ground.GgzProg
import Derived.Maps.RangeRun
import Derived.Laws.BytesArg
import Derived.RangeFuncRecord
import Derived.TacticsIn
import Derived.Deep.Slices
import Derived.OpenShut
import Derived.ChangeArms
import Derived.SizedLaws
import Derived.ChangeSame
import Derived.Test.YtpjjmbmmfelooaaGreatRows
import Derived.Sort.QuietThIn
import Derived.ScopeJumps
import Derived.LaidEqlPtr
import Derived.Lib.Builder
import Derived.Lib.UnsafeStr
import Derived.Laws.Strings
import Derived.Test.YtpjjmbmmfelooaaGreatMg4
set_option linter.unusedVariables false
set_option linter.unusedSimpArgs false
namespace Go.Vl
open Go Go.Proofs
theorem ovF_lt {M : MS} {n : Nat} {f : TF} (h : MF M n f) {p : Nat} {xs : List Nat} (hx : ∀ x ∈ xs, x < 256) : ∀ x ∈ ovF f p xs, x < 256 := fun x hm => by
  obtain ⟨i, hi⟩ := List.mem_iff_getElem?.1 hm
  rw [ovF_get] at hi
  cases hxi : xs[i]? with
  | none => rw [hxi] at hi; cases hi
  | some y =>
    rw [hxi] at hi
    simp only [Option.map_some, Option.some.injEq] at hi
    cases hf : f (p + i) with
    | none => rw [hf] at hi; simp at hi; rw [← hi]; exact hx y (List.mem_of_getElem? hxi)
    | some c => rw [hf] at hi; simp at hi; rw [← hi]; exact h.by_ _ _ hf
theorem con_lt {X : WkX} {Y : WkY} {T : WkT} {N : Nat} {s : DevS} {ba b : Nat} (h : WkOk X Y T N) : ∀ x ∈ conB T s ba b, x < 256 := ovF_lt h.m img_sub
theorem sobB {xs : List Nat} (h : ∀ x ∈ xs, x < 256) : sbys (sob xs) = xs := by
  unfold sbys sob
  rw [List.toList_toArray, List.map_map]
  conv => rhs; rw [← List.map_id xs]
  refine List.map_congr_left fun x hx => ?_
  show (UInt8.ofNat x).toNat = x
  rw [UInt8.toNat_ofNat']
  exact Nat.mod_eq_of_lt (h x hx)
theorem rs_eqB {A : SP} {a : Option Addr} {xs ys : List Nat} (e : xs = ys) (h : Rs A a (bys xs)) : Rs A a (bys ys) := e ▸ h
theorem sobN (xs : List Nat) : (sob xs).size = xs.length := by unfold sob; show (List.toArray _).size = _; simp
theorem o_nestrB {P : Program} {n : Nat} {ρ : Env} {A : SP} {dst : Option Tmp} {ty : TypeId} {pos : String} {after : Array Edge} {gd : Option (Nat × Bool)} {t t' : TypeId} {x y : Operand} {a b : ByteArray} (hx : ev n ρ x = .string a) (hy : ev n ρ y = .string b) :
    OpV P n ρ A ⟨dst, .binOp .neq t x y t', ty, pos, after, gd⟩ (.bool (decide (a.toList ≠ b.toList))) :=
  opv_of fun w => by
  simp only [execOp, hx, hy]
  rw [run_bind (w' := w) (a := .bool (decide (a.toList ≠ b.toList)))]
  · rfl
  rw [run_bind (w' := w) (a := ())]
  · by_cases h : a.toList = b.toList <;> simp [binOp, Op.stringOp, pure, h]
  · rfl
theorem sbys_inj {a b : ByteArray} : a.toList = b.toList ↔ sbys a = sbys b := by
  rw [ByteArray.toList_eq, ByteArray.toList_eq]
  unfold sbys
  constructor
  · intro h; rw [h]
  · intro h
    exact List.map_inj_right (fun x y e => UInt8.toNat_inj.1 e) |>.1 h
theorem sob_inj {xs ys : List Nat} (hx : ∀ x ∈ xs, x < 256) (hy : ∀ x ∈ ys, x < 256) : (sob xs).toList = (sob ys).toList ↔ xs = ys := by
  rw [sbys_inj, sobB hx, sobB hy]
theorem Read13_c {A R : SP} {C : SP → SP} {X : WkX} {Y : WkY} {T : WkT} {s : DevS} (hc : Ct A (WkA X Y s) R C := by repeat (first | with_reducible exact ct_here | apply ct_left)) (hok : WkOk X Y T (s.ls.length * 64)) (hb : WkB X s) (ho : s.off = false := by assumption) {b : Int} :
    Fn Tryz.prog 24 #[.pointer (some ⟨X.w, 0, none⟩), .int .i64 b] A (fun r B => ∃ a m c e xs, r = .tuple #[.slice a m c, .int .i64 e] ∧
      ((usedZ T b = true ∧ e = 0 ∧ m = 256 ∧ 256 ≤ c ∧ xs = conB T s X.ba b.toNat) ∨ (usedZ T b = false ∧ e = 130 ∧ m = 0 ∧ xs = [])) ∧ B = A * Sl 1 (.slice a m c) m (bys xs)) := by
  cases h : usedZ T b with
  | true =>
    obtain ⟨q, rfl⟩ : ∃ q : Nat, b = q := by
      unfold usedZ at h
      simp only [Bool.and_eq_true, decide_eq_true_eq] at h
      exact ⟨b.toNat, by omega⟩
    rw [usedZ_nat] at h
    exact (Read13_ok (hc := hc) (hok := hok) (hb := hb) (hu := h)).mono fun r B ⟨a, c, h1, h2, h3⟩ => ⟨a, 256, c, 0, _, h1, .inl ⟨rfl, rfl, rfl, h2, rfl⟩, h3⟩
  | false =>
    intro g w hs
    refine (Read13_no (hc := hc) (hok := hok) (hb := hb) (hu := h) (ho := ho) g w hs).mono ?_; rintro e w' ⟨v, B, e1, ⟨e2, rfl⟩, hB⟩; exact ⟨v, _, e1, ⟨none, 0, 0, 130, [], e2, .inr ⟨rfl, rfl, rfl, rfl⟩, rfl⟩, sl_nil hB⟩
attribute [local irreducible] crk crL crc Sl pt ro Dev imgS recS readS recsF rdW rdO rkT Parts rvl recordsS runsL adrF kcl xcl kys runA runsF layF ovF TxA adZ WkA SlB blkS conB
set_option maxRecDepth 20000 in
set_option maxHeartbeats 1000000 in
theorem readL_c {A R : SP} {C : SP → SP} {X : WkX} {Y : WkY} {T : WkT} {s : DevS} (hc : Ct A (WkA X Y s) R C := by repeat (first | with_reducible exact ct_here | apply ct_left)) (hok : WkOk X Y T (s.ls.length * 64)) (hb : WkB X s) (ho : s.off = false := by assumption) {ref : Nat} (hr0 : 1 ≤ ref := by omega) (hr1 : ref < 4294967296 := by omega) :
    Fn Tryz.prog 202 #[.pointer (some ⟨X.w, 0, none⟩), .int .u32 ((ref : Nat) : Int)] (A) (fun r B => ∃ l nx, lnkS (usedB T) (conB T s X.ba) ref = (l, nx) ∧ r = .tuple #[.agg ([.int .i64 ((l.1 : Nat) : Int), .string (sob l.2.1), .int .i64 l.2.2] : List Value).toArray, .int .u32 ((nx : Nat) : Int)] ∧ A = B) := by
  refine fn_enterW (args := [.pointer (some ⟨X.w, 0, none⟩), .int .u32 ((ref : Nat) : Int)]) Tryz.func202 rfl Tryz.ntmps202 (by simp) ?_
  obtain ⟨hb1, hb2, hb3⟩ := id hb
  have hcl := con_lt (s := s) (ba := X.ba) (b := ref - 1) hok
  obtain ⟨bs, hbs⟩ : ∃ bs, conB T s X.ba (ref - 1) = bs := ⟨_, rfl⟩
  rw [hbs] at hcl
  refine tc_have (fun _ _ h => txa_wf (wka_txa hc) _ _ h) fun hwf => ?_
  have hbl : usedB T (ref - 1) = true → bs.length = 256 := fun hu => by
    have := used_n hok hu
    rw [← hbs]; exact con_len (by rw [imgS_len hwf]; omega)
  refine sr ?_; refine tl_x rfl (o_alloc (l := [.int .i64 ((0 : Nat) : Int), .string (sob []), .int .i64 0]) z222 rfl) ?_; rintro _ _ ⟨b4, rfl, rfl⟩; refine tla ?_; refine nq ?_; refine sr ?_; refine tlm ?_; refine tv (o_convI (a := ((ref : Nat) : Int)) Tryz.underlying32 Tryz.underlying3 rfl (wrap_i64 (by omega))) ?_; refine tv (o_subI rfl rfl (by omega)) ?_; refine tl_env (d := 16) (v := .int .i64 ((ref - 1 : Nat) : Int)) (congrArg (Value.int .i64) (by omega)) ?_; refine tla ?_; refine nq ?_; refine sr ?_; refine tlm ?_; refine tlm ?_; refine tl_c rfl (o_call bd24 rfl (Read13_c (hc := ct_left hc) (hok := hok) (hb := hb) (b := ((ref - 1 : Nat) : Int)))) ?_; rintro _ _ ⟨a20, m20, c20, e20, xs20, rfl, hr20, rfl⟩
  rw [usedZ_nat, Int.toNat_natCast, hbs] at hr20
  refine tlm ?_; refine tv (o_extract rfl rfl) ?_; refine tv (o_extract rfl rfl) ?_; refine tla ?_; refine tla ?_; refine nq ?_; refine tc_seq ?_; refine sr ?_; refine tlm ?_; refine tv (o_eqi rfl rfl) ?_; refine nq ?_; refine tc_cond rfl (fun h => ?_) (fun h => ?_)
  · obtain ⟨hu, rfl, _, _, _⟩ | ⟨hu, rfl, rfl, rfl⟩ := hr20
    · exfalso; simp at h
    refine tc_reg ?_; refine tla ?_; refine nq ?_; refine tc_seq ?_; refine sr ?_; refine tlm ?_; refine tv (o_nei rfl rfl) ?_; refine nq ?_; refine tc_cond rfl (fun h => ?_) (fun h => ?_)
    · try simp only [lv1, lv2, lv3, lv4, lv5, lv6, Bool.not_true, Bool.not_false] at h
      refine sr ?_; refine tlm ?_; refine tv (o_bS (l := [.int .i64 ((0 : Nat) : Int), .string (sob []), .int .i64 140]) (pv_cons (by conv => lhs; whnf) pv_nil) Tryz.underlying222 z222 (pl222 Tryz.underlying222) rfl) ?_; refine tl_u rfl (o_stUN rfl (by repeat (first | with_reducible exact upd_here | with_reducible exact upd_pt | apply upd_left)) sz222 rfl rfl rfl (by first | decide | simp | omega) rfl) ?_; refine tla ?_; refine nq ?_; refine tc_ret ?_; refine q_then_r ?_
      have hu := hu
      have he9 : lnkS (usedB T) (conB T s X.ba) ref = ((0, [], 140), 0) := by
        unfold lnkS; first | rw [if_neg (fun h8 => by rw [hu] at h8; exact absurd h8.2 (by decide))] | rw [if_pos ⟨hr0, hu⟩, hbs, if_neg hbad]
      exact ⟨.tuple #[.agg ([.int .i64 ((0 : Nat) : Int), .string (sob []), .int .i64 140] : List Value).toArray, .int .u32 ((0 : Nat) : Int)], _, resA2 rfl (rv_cell a222 sz222 rfl (by (repeat (first | assumption | with_reducible exact has_here | with_reducible exact has_pt | apply has_left))) (by exact Nat.le_refl 3) rfl) (rv_tmp rfl), Dr.sat (by repeat (first | with_reducible exact dr_refl | apply dr_keep | apply dr_drop)), (0, [], 140), 0, he9, rfl, rfl⟩
    · exfalso; simp at h
  · obtain ⟨hu, rfl, rfl, hc7, hx7⟩ | ⟨hu, rfl, _, _⟩ := hr20
    rotate_left
    · exfalso; simp at h
    obtain rfl := hx7.symm
    have hbl := hbl hu
    refine tc_skip ?_; refine q_then_n ?_; refine tc_seq ?_; refine sr ?_; refine tlm ?_; refine tv (o_nei rfl rfl) ?_; refine nq ?_; refine tc_cond rfl (fun h => ?_) (fun h => ?_)
    · exfalso; simp at h
    · try simp only [lv1, lv2, lv3, lv4, lv5, lv6, Bool.not_true, Bool.not_false] at h
      refine tc_skip ?_; refine q_then_n ?_; refine tc_seq ?_
      obtain ⟨nx, hnx⟩ : ∃ nx, nm (bs.take 4) = nx := ⟨_, rfl⟩
      obtain ⟨dn, hdn⟩ : ∃ dn, nm ((bs.drop 4).take 2) = dn := ⟨_, rfl⟩
      have hnb : nx < 4294967296 := by
        have h4 : (bs.take 4).length = 4 := by rw [List.length_take]; omega
        have := nm_lt (bs.take 4) fun x hx => hcl x (List.mem_of_mem_take hx)
        rw [h4, hnx] at this; exact this
      have hdb : dn < 65536 := by
        have h4 : ((bs.drop 4).take 2).length = 2 := by rw [List.length_take, List.length_drop]; omega
        have := nm_lt ((bs.drop 4).take 2) fun x hx => hcl x (List.mem_of_mem_drop (List.mem_of_mem_take hx))
        rw [h4, hdn] at this; exact this
      have hlb : ((bs.drop 8).take dn).length = min dn 248 := by rw [List.length_take, List.length_drop, hbl]
      have hlx : ∀ x ∈ (bs.drop 8).take dn, x < 256 := fun x hx => hcl x (List.mem_of_mem_drop (List.mem_of_mem_take hx))
      refine tc_reg ?_; refine tlm ?_; refine tl_c rfl (o_call bd239 rfl (Take32_c (p := 0) (xs := bs) (m := 256) (hb := hcl) (hm := hbl))) ?_; rintro _ _ ⟨rfl, rfl⟩; refine tlm ?_; refine tv (o_extract rfl rfl) ?_; refine tl_env (d := 32) (v := .int .u32 ((nx : Nat) : Int)) (by show Value.int .u32 ((nm ((bs.drop 0).take 4) : Nat) : Int) = _; rw [List.drop_zero, hnx]) ?_; refine tv (o_extract rfl rfl) ?_; refine tla ?_; refine tla ?_; refine nq ?_; refine sr ?_; refine tlm ?_; refine tl_c rfl (o_call bd240 rfl (Take16_c (p := 4) (xs := bs) (m := 256) (hb := hcl) (hm := hbl))) ?_; rintro _ _ ⟨rfl, rfl⟩; refine tlm ?_; refine tv (o_extract rfl rfl) ?_; refine tl_env (d := 37) (v := .int .u16 ((dn : Nat) : Int)) (by show Value.int .u16 ((nm ((bs.drop 4).take 2) : Nat) : Int) = _; rw [hdn]) ?_; refine tv (o_extract rfl rfl) ?_; refine tla ?_; refine tla ?_; refine nq ?_; refine tc_seq ?_; refine tc_seq ?_; refine tc_cut (fun ρ BB => ∃ (bb : Bool), (bb = decide (¬ (1 ≤ dn ∧ dn ≤ 248 ∧ (nx = 0 ∨ dn = 248)))) ∧ ρ 52 = .bool bb ∧ ρ 4 = .pointer (some ⟨b4, 0, none⟩) ∧ ρ 6 = .int .i64 ((ref - 1 : Nat) : Int) ∧ ρ 7 = .slice a20 256 c20 ∧ ρ 9 = .int .u32 ((nx : Nat) : Int) ∧ ρ 11 = .int .u16 ((dn : Nat) : Int) ∧ Dr BB (A * pt b4 (cl [.int .i64 ((0 : Nat) : Int), .string (sob []), .int .i64 0] 222) * Sl 1 (.slice a20 256 c20) 256 (bys bs))) ?_ ?_
      · skip
        refine tc_reg ?_; refine tlm ?_; refine tv (o_lss rfl rfl) ?_; refine tlm ?_; refine tl_bool (d := 41) rfl (fun h => ?_) (fun h => ?_)
        · try simp only [lv1, lv2, lv3, lv4, lv5, lv6, Bool.not_true, Bool.not_false] at h
          refine tk ?_; refine tk ?_; refine tv (o_pick_t rfl (by conv => lhs; whnf)) ?_; refine tlm ?_; refine tk ?_; refine tk ?_; refine tk ?_; refine tk ?_; refine tk ?_; refine tk ?_; refine tv (o_pick_t rfl (by conv => lhs; whnf)) ?_; refine tl_nil ?_; exact ⟨_, by first | exact (decide_eq_true (by omega)).symm | exact (decide_eq_false (by omega)).symm | (rw [decide_eq_decide]; omega), rfl, rfl, rfl, rfl, rfl, rfl, (by repeat (first | with_reducible exact dr_refl | apply dr_keep | apply dr_drop))⟩
        · try simp only [lv1, lv2, lv3, lv4, lv5, lv6, Bool.not_true, Bool.not_false] at h
          refine tlm ?_; refine tv (o_gtr rfl rfl) ?_; refine tv (o_pick_f rfl (by conv => lhs; whnf)) ?_; refine tlm ?_; refine tl_bool (d := 45) rfl (fun h => ?_) (fun h => ?_)
          · try simp only [lv1, lv2, lv3, lv4, lv5, lv6, Bool.not_true, Bool.not_false] at h
            refine tk ?_; refine tk ?_; refine tk ?_; refine tk ?_; refine tk ?_; refine tk ?_; refine tv (o_pick_t rfl (by conv => lhs; whnf)) ?_; refine tl_nil ?_; exact ⟨_, by first | exact (decide_eq_true (by omega)).symm | exact (decide_eq_false (by omega)).symm | (rw [decide_eq_decide]; omega), rfl, rfl, rfl, rfl, rfl, rfl, (by repeat (first | with_reducible exact dr_refl | apply dr_keep | apply dr_drop))⟩
          · try simp only [lv1, lv2, lv3, lv4, lv5, lv6, Bool.not_true, Bool.not_false] at h
            refine tlm ?_; refine tv (o_nei rfl rfl) ?_; refine tlm ?_; refine tl_bool (d := 48) rfl (fun h => ?_) (fun h => ?_)
            · try simp only [lv1, lv2, lv3, lv4, lv5, lv6, Bool.not_true, Bool.not_false] at h
              refine tlm ?_; refine tv (o_nei rfl rfl) ?_; refine tv (o_pick_t rfl (by conv => lhs; whnf)) ?_; refine tv (o_pick_f rfl (by conv => lhs; whnf)) ?_; refine tl_nil ?_; exact ⟨_, by first | exact (decide_eq_true (by omega)).symm | exact (decide_eq_false (by omega)).symm | (rw [decide_eq_decide]; omega), rfl, rfl, rfl, rfl, rfl, rfl, (by repeat (first | with_reducible exact dr_refl | apply dr_keep | apply dr_drop))⟩
            · try simp only [lv1, lv2, lv3, lv4, lv5, lv6, Bool.not_true, Bool.not_false] at h
              refine tk ?_; refine tk ?_; refine tv (o_pick_f rfl (by conv => lhs; whnf)) ?_; refine tv (o_pick_f rfl (by conv => lhs; whnf)) ?_; refine tl_nil ?_; exact ⟨_, by first | exact (decide_eq_true (by omega)).symm | exact (decide_eq_false (by omega)).symm | (rw [decide_eq_decide]; omega), rfl, rfl, rfl, rfl, rfl, rfl, (by repeat (first | with_reducible exact dr_refl | apply dr_keep | apply dr_drop))⟩
      · intro ρ B hI
        obtain ⟨bb, hbb0, hE52, hE4, hE6, hE7, hE9, hE11, hBA⟩ := hI
        refine q_then_n ?_; refine tc_pre hBA.sat ?_
        clear hBA
        refine tc_env (d := 52) hE52 ?_; refine tc_env (d := 4) hE4 ?_; refine tc_env (d := 6) hE6 ?_; refine tc_env (d := 7) hE7 ?_; refine tc_env (d := 9) hE9 ?_; refine tc_env (d := 11) hE11 ?_
        clear hE52 hE4 hE6 hE7 hE9 hE11
        refine tc_cond rfl (fun h => ?_) (fun h => ?_)
        · have hbad : ¬ (1 ≤ nm ((bs.drop 4).take 2) ∧ nm ((bs.drop 4).take 2) ≤ 248 ∧ (nm (bs.take 4) = 0 ∨ nm ((bs.drop 4).take 2) = 248) ∧ blkS (nm (bs.take 4)) ((bs.drop 8).take (nm ((bs.drop 4).take 2))) = bs) := (by rw [hnx, hdn]; rw [h] at hbb0; have h8 := of_decide_eq_true hbb0.symm; exact fun h9 => h8 ⟨h9.1, h9.2.1, h9.2.2.1⟩)
          refine sr ?_; refine tv (o_bS (l := [.int .i64 ((0 : Nat) : Int), .string (sob []), .int .i64 140]) (pv_cons (by conv => lhs; whnf) pv_nil) Tryz.underlying222 z222 (pl222 Tryz.underlying222) rfl) ?_; refine tl_u rfl (o_stUN rfl (by repeat (first | with_reducible exact upd_here | with_reducible exact upd_pt | apply upd_left)) sz222 rfl rfl rfl (by first | decide | simp | omega) rfl) ?_; refine tla ?_; refine nq ?_; refine tc_ret ?_; refine q_then_r ?_
          have hu := hu
          have he9 : lnkS (usedB T) (conB T s X.ba) ref = ((0, [], 140), 0) := by
            unfold lnkS; first | rw [if_neg (fun h8 => by rw [hu] at h8; exact absurd h8.2 (by decide))] | rw [if_pos ⟨hr0, hu⟩, hbs, if_neg hbad]
          exact ⟨.tuple #[.agg ([.int .i64 ((0 : Nat) : Int), .string (sob []), .int .i64 140] : List Value).toArray, .int .u32 ((0 : Nat) : Int)], _, resA2 rfl (rv_cell a222 sz222 rfl (by (repeat (first | assumption | with_reducible exact has_here | with_reducible exact has_pt | apply has_left))) (by exact Nat.le_refl 3) rfl) (rv_tmp rfl), Dr.sat (by repeat (first | with_reducible exact dr_refl | apply dr_keep | apply dr_drop)), (0, [], 140), 0, he9, rfl, rfl⟩
        · rw [h] at hbb0
          obtain ⟨hd1, hd2, hd3⟩ := Classical.not_not.1 (of_decide_eq_false hbb0.symm)
          refine tc_skip ?_; refine q_then_n ?_; refine sr ?_; refine tlm ?_; refine tlm ?_; refine tv (o_convI (a := ((dn : Nat) : Int)) Tryz.underlying213 Tryz.underlying3 rfl (wrap_i64 (by omega))) ?_; refine tv (o_addI rfl rfl (by omega)) ?_; refine tl_env (d := 57) (v := .int .i64 ((8 + dn : Nat) : Int)) (by first | rfl | (show Value.int .i64 _ = _; congr 1)) ?_; refine tv (o_slice (l := 8) (h := 8 + dn) Tryz.underlying57 sz5 rfl (bnd_nat rfl) (bnd_nat rfl) (by omega) (by omega)) ?_; refine tl_env (d := 58) (v := .slice (cutAddr a20 c20 8 1) dn (c20 - 8)) (by show Value.slice _ (8 + dn - 8) _ = _; rw [Nat.add_sub_cancel_left]) ?_; refine tv (o_b2s (xs := (bs.drop 8).take dn) Tryz.underlying57 Tryz.underlying5 Tryz.underlying9 rfl (rs_mid (X := bs) (by repeat (first | with_reducible exact rs_sl | apply Rs.left)) (by omega)) (by rw [hlb]; omega) (by omega)) ?_; refine tla ?_; refine nq ?_; refine tc_seq ?_; refine tc_seq ?_; refine tc_regh mo dr_refl ?_
          show TH _ _ _ _ _ 7 #[ff,ff,ff,ff,ff,ff,ff] _ _
          refine th_take (i := 0) (listed' := #[tt,ff,ff,ff,ff,ff,ff]) rfl (by kernel_rfl) (by kernel_rfl) (by kernel_rfl) rfl rfl (o_move (by conv => lhs; whnf)) ?_; refine th_take (i := 1) (listed' := #[tt,tt,ff,ff,ff,ff,ff]) rfl (by kernel_rfl) (by kernel_rfl) (by kernel_rfl) rfl rfl (o_move (by conv => lhs; whnf)) ?_; refine th_take (i := 4) (listed' := #[tt,tt,ff,ff,tt,ff,ff]) rfl (by kernel_rfl) (by kernel_rfl) (by kernel_rfl) rfl rfl (o_move (by conv => lhs; whnf)) ?_; refine th_take (i := 5) (listed' := #[tt,tt,ff,ff,tt,tt,ff]) rfl (by kernel_rfl) (by kernel_rfl) (by kernel_rfl) rfl rfl (o_b2s (xs := bs) Tryz.underlying57 Tryz.underlying5 Tryz.underlying9 rfl (by repeat (first | with_reducible exact rs_sl | apply Rs.left)) hbl (by omega)) ?_; refine th_one (i := 2) (by kernel_rfl) ?_; refine oh_c (i := 2) (listed' := #[tt,tt,tt,ff,tt,tt,ff]) rfl rfl rfl (o_call bd72 rfl (blockB_c (s := sob ((bs.drop 8).take dn)) (nx := nx) (hs := by rw [sobN, hlb]; omega))) ?_; rintro _ _ ⟨a62, c62, rfl, hc62, rfl⟩; refine ⟨by repeat (first | with_reducible exact dr_refl | apply dr_keep | apply dr_drop), ?_⟩; refine th_one (i := 3) (by kernel_rfl) ?_; refine oh_v (i := 3) (listed' := #[tt,tt,tt,tt,tt,tt,ff]) rfl rfl rfl (o_b2s (xs := blkS nx ((bs.drop 8).take dn)) Tryz.underlying57 Tryz.underlying5 Tryz.underlying9 rfl (rs_eqB (congrArg (blkS nx) (sobB hlx)) (by repeat (first | with_reducible exact rs_sl | apply Rs.left))) (blkS_len (by rw [hlb]; omega)) (by omega)) ?_
          refine th_take (i := 6) (listed' := #[tt,tt,tt,tt,tt,tt,tt]) rfl (by kernel_rfl) (by kernel_rfl) (by kernel_rfl) rfl rfl (o_nestrB rfl rfl) ?_; refine th_done (by kernel_rfl) ?_; refine q_then_n ?_; refine tc_cond rfl (fun h => ?_) (fun h => ?_)
          · have hbad : ¬ (1 ≤ nm ((bs.drop 4).take 2) ∧ nm ((bs.drop 4).take 2) ≤ 248 ∧ (nm (bs.take 4) = 0 ∨ nm ((bs.drop 4).take 2) = 248) ∧ blkS (nm (bs.take 4)) ((bs.drop 8).take (nm ((bs.drop 4).take 2))) = bs) := (by rw [hnx, hdn]; rintro ⟨_, _, _, h9⟩; exact of_decide_eq_true h ((sob_inj (blkS_bytes hlx) hcl).2 h9))
            refine sr ?_; refine tv (o_bS (l := [.int .i64 ((0 : Nat) : Int), .string (sob []), .int .i64 140]) (pv_cons (by conv => lhs; whnf) pv_nil) Tryz.underlying222 z222 (pl222 Tryz.underlying222) rfl) ?_; refine tl_u rfl (o_stUN rfl (by repeat (first | with_reducible exact upd_here | with_reducible exact upd_pt | apply upd_left)) sz222 rfl rfl rfl (by first | decide | simp | omega) rfl) ?_; refine tla ?_; refine nq ?_; refine tc_ret ?_; refine q_then_r ?_
            have hu := hu
            have he9 : lnkS (usedB T) (conB T s X.ba) ref = ((0, [], 140), 0) := by
              unfold lnkS; first | rw [if_neg (fun h8 => by rw [hu] at h8; exact absurd h8.2 (by decide))] | rw [if_pos ⟨hr0, hu⟩, hbs, if_neg hbad]
            exact ⟨.tuple #[.agg ([.int .i64 ((0 : Nat) : Int), .string (sob []), .int .i64 140] : List Value).toArray, .int .u32 ((0 : Nat) : Int)], _, resA2 rfl (rv_cell a222 sz222 rfl (by (repeat (first | assumption | with_reducible exact has_here | with_reducible exact has_pt | apply has_left))) (by exact Nat.le_refl 3) rfl) (rv_tmp rfl), Dr.sat (by repeat (first | with_reducible exact dr_refl | apply dr_keep | apply dr_drop)), (0, [], 140), 0, he9, rfl, rfl⟩
          · have hgood : blkS nx ((bs.drop 8).take dn) = bs := (sob_inj (blkS_bytes hlx) hcl).1 (by simpa using h)
            refine tc_skip ?_; refine q_then_n ?_; refine sr ?_; refine tlm ?_; refine tlm ?_; refine tv (o_bS (l := [.int .i64 (((ref - 1) : Nat) : Int), .string (sob ((bs.drop 8).take dn)), .int .i64 0]) (pv_cons (by conv => lhs; whnf) (pv_cons (by conv => lhs; whnf) (pv_cons (by conv => lhs; whnf) pv_nil))) Tryz.underlying222 z222 (pl222 Tryz.underlying222) rfl) ?_; refine tlm ?_; refine tl_u rfl (o_stUN rfl (by repeat (first | with_reducible exact upd_here | with_reducible exact upd_pt | apply upd_left)) sz222 rfl rfl rfl (by first | decide | simp | omega) rfl) ?_; refine tla ?_; refine nq ?_; refine tc_ret ?_
            have he9 : lnkS (usedB T) (conB T s X.ba) ref = ((ref - 1, (bs.drop 8).take dn, 0), nx) := by
              unfold lnkS; rw [if_pos ⟨hr0, hu⟩, hbs, hnx, hdn, if_pos ⟨hd1, hd2, hd3, hgood⟩]
            exact ⟨.tuple #[.agg ([.int .i64 (((ref - 1) : Nat) : Int), .string (sob ((bs.drop 8).take dn)), .int .i64 0] : List Value).toArray, .int .u32 ((nx : Nat) : Int)], _, resA2 rfl (rv_cell a222 sz222 rfl (by (repeat (first | assumption | with_reducible exact has_here | with_reducible exact has_pt | apply has_left))) (by exact Nat.le_refl 3) rfl) (rv_tmp rfl), Dr.sat (by repeat (first | with_reducible exact dr_refl | apply dr_keep | apply dr_drop)), (ref - 1, (bs.drop 8).take dn, 0), nx, he9, rfl, rfl⟩
end Go.Vl

namespace Go.Vl
open Go Go.Proofs
def lkV (x : Lk) : Value := .agg ([.int .i64 ((x.1 : Nat) : Int), .string (sob x.2.1), .int .i64 x.2.2] : List Value).toArray
theorem starM3 (S a b c : SP) : S * (a * b * c) = S * a * b * c := by ac_rfl
theorem ch_zero {f : Nat → Lk × Nat} {k m : Nat} : chL f k 0 m = [] := by cases k <;> rfl
theorem ch_err {f : Nat → Lk × Nat} {k ref m : Nat} {l : Lk} {nx : Nat} (hk : 0 < k) (hr : ref ≠ 0) (h : f ref = (l, nx)) (he : (cutL m l).2.2 ≠ 0) : chL f k ref m = [cutL m l] := by
  obtain ⟨j, rfl⟩ : ∃ j, k = j + 1 := ⟨k - 1, by omega⟩
  conv => lhs; unfold chL
  rw [if_neg hr, h]; exact if_pos he
theorem ch_ok {f : Nat → Lk × Nat} {k ref m : Nat} {l : Lk} {nx : Nat} (hk : 0 < k) (hr : ref ≠ 0) (h : f ref = (l, nx)) (he : (cutL m l).2.2 = 0) : chL f k ref m = cutL m l :: chL f (k - 1) nx (m + l.2.1.length) := by
  obtain ⟨j, rfl⟩ : ∃ j, k = j + 1 := ⟨k - 1, by omega⟩
  conv => lhs; unfold chL
  rw [if_neg hr, h, Nat.add_sub_cancel]; exact if_neg (by simpa using he)
theorem drop_one {L : List Lk} {k : Nat} {x : Lk} (h : L.drop k = [x]) : L.length = k + 1 ∧ L.getD k (0, [], 0) = x := by
  have h1 := congrArg List.length h
  rw [List.length_drop, List.length_singleton] at h1
  refine ⟨by omega, ?_⟩
  have h2 : (L.drop k)[0]? = some x := by rw [h]; rfl
  rw [List.getElem?_drop, Nat.add_zero] at h2
  rw [List.getD_eq_getElem?_getD, h2]; rfl
theorem drop_more {L Z : List Lk} {k : Nat} {x : Lk} (h : L.drop k = x :: Z) : k + 1 ≤ L.length ∧ L.getD k (0, [], 0) = x ∧ L.drop (k + 1) = Z := by
  have h1 := congrArg List.length h
  rw [List.length_drop, List.length_cons] at h1
  refine ⟨by omega, ?_, ?_⟩
  · have h2 : (L.drop k)[0]? = some x := by rw [h]; rfl
    rw [List.getElem?_drop, Nat.add_zero] at h2
    rw [List.getD_eq_getElem?_getD, h2]; rfl
  · rw [← List.drop_drop, h]; rfl
theorem cut_ok {m : Nat} {l : Lk} (h : ¬ 65536 < m + l.2.1.length) : cutL m l = l := by unfold cutL; exact if_neg h
theorem cut_no {m : Nat} {l : Lk} (h : 65536 < m + l.2.1.length) : cutL m l = (0, [], 140) := by unfold cutL; exact if_pos h
attribute [local irreducible] crk crL crc Sl pt ro Dev imgS recS readS recsF rdW rdO rkT Parts rvl recordsS runsL adrF kcl xcl kys runA runsF layF ovF TxA adZ WkA SlB blkS conB
namespace Rg
theorem chain1_f {l q1 q2 : Nat} {X : WkX} {Y : WkY} {T : WkT} {s : DevS} (hok : WkOk X Y T (s.ls.length * 64)) (hb : WkB X s) (ho : s.off = false) {ref : Nat} (hr1 : ref < 4294967296) {L : List Lk} (hL : chL (lnkS (usedB T) (conB T s X.ba)) 65538 ref 0 = L) {J : Nat → SP → Prop} {XX : SP → Prop} {S0 : SP} (h0 : J 0 S0) (hY : ∀ F i S, i < L.length → J i S → Yd Tryz.prog l #[lkV (L.getD i (0, [], 0))] (F * S) (fun v B => ∃ (b : Bool) (S' : SP), v = .bool b ∧ (b = true → J (i + 1) S') ∧ (b = false → XX S') ∧ B = F * S')) :
    Fn Tryz.prog 201 #[.func (.yield l) #[] #[], .pointer (some ⟨q1, 0, none⟩), .pointer (some ⟨q2, 0, none⟩)] (S0 * pt q1 (cl [.int .u32 ((ref : Nat) : Int)] 32) * pt q2 (cl [.pointer (some ⟨X.w, 0, none⟩)] 28) * WkA X Y s) (fun r B => r = .tuple #[] ∧ ((∃ S, J L.length S ∧ B = S * pt q1 (cl [.int .u32 ((ref : Nat) : Int)] 32) * pt q2 (cl [.pointer (some ⟨X.w, 0, none⟩)] 28) * WkA X Y s) ∨ ∃ S, XX S ∧ B = S * pt q1 (cl [.int .u32 ((ref : Nat) : Int)] 32) * pt q2 (cl [.pointer (some ⟨X.w, 0, none⟩)] 28) * WkA X Y s)) := by
  refine fn_enterW (args := [.func (.yield l) #[] #[], .pointer (some ⟨q1, 0, none⟩), .pointer (some ⟨q2, 0, none⟩)]) Tryz.func201 rfl Tryz.ntmps201 (by simp) ?_; refine tc_seq ?_; refine tc_reg ?_; refine tla ?_; refine tl_nil ?_; refine q_then_n ?_; refine tc_seq ?_; refine tc_reg ?_; refine tl_v rfl (o_load p32 rfl (by repeat (first | with_reducible exact has_here | with_reducible exact has_pt | apply has_left)) rfl) ?_; refine tla ?_; refine tl_nil ?_; refine q_then_n ?_; refine tc_block ?_; refine tc_loop (fun kk ρ BB => ∃ (k : Nat) (r2 : Nat) (m : Nat) (S : SP), (k ≤ L.length ∧ k ≤ m ∧ m ≤ 65536 ∧ r2 < 4294967296) ∧ (J k S) ∧ (L.drop k = chL (lnkS (usedB T) (conB T s X.ba)) (65538 - k) r2 m) ∧ kk = L.length - k ∧ ρ 4 = .int .i64 ((m : Nat) : Int) ∧ ρ 5 = .int .u32 ((r2 : Nat) : Int) ∧ ρ 35 = undef ∧ ρ 0 = .func (.yield l) #[] #[] ∧ ρ 2 = .pointer (some ⟨q2, 0, none⟩) ∧ Dr BB (S * pt q1 (cl [.int .u32 ((ref : Nat) : Int)] 32) * pt q2 (cl [.pointer (some ⟨X.w, 0, none⟩)] 28) * WkA X Y s)) (m := L.length - (0)) ?_ ?_
  · exact ⟨0, ref, 0, S0, by omega, h0, hL.symm, rfl, rfl, rfl, rfl, rfl, rfl, (by repeat (first | with_reducible exact dr_refl | apply dr_keep | apply dr_drop))⟩
  · intro k ρ B hI
    obtain ⟨k, r2, m, S, hp0, hp1, hp2, hkk1, hE4, hE5, hE35, hE0, hE2, hBA⟩ := hI
    refine tc_pre hBA.sat ?_
    clear hBA
    refine tc_env (d := 4) hE4 ?_; refine tc_env (d := 5) hE5 ?_; refine tc_env (d := 35) hE35 ?_; refine tc_env (d := 0) hE0 ?_; refine tc_env (d := 2) hE2 ?_
    clear hE4 hE5 hE35 hE0 hE2
    refine tc_seq ?_; refine tc_seq ?_; refine tc_reg ?_; refine tlm ?_; refine tl_v rfl (o_nei rfl rfl) ?_; refine tl_nil ?_; refine q_then_n ?_; refine tc_cond rfl (fun h => ?_) (fun h => ?_)
    · obtain ⟨hk1, hk2, hk3, hr2⟩ := hp0
      have hrr : 1 ≤ r2 := by first | omega | (simp at h; omega)
      refine tc_skip ?_; refine q_then_n ?_; refine tc_block ?_; refine tc_seq ?_; refine tc_reg ?_; refine tl_v rfl (o_load p28 rfl (by repeat (first | with_reducible exact has_here | with_reducible exact has_pt | apply has_left)) rfl) ?_; refine tlm ?_; refine tl_c rfl (o_call bd202 rfl (readL_c (X := X) (Y := Y) (T := T) (s := s) (hok := hok) (hb := hb) (ref := r2))) ?_; rintro _ _ ⟨l14, nx14, hl14, rfl, rfl⟩
      have hcs := lnk_cases (usedB T) (conB T s X.ba) r2 (by omega) (fun b _ => con_lt hok)
      rw [hl14] at hcs
      have hdl : l14.2.1.length ≤ 248 := by rcases hcs with h8 | ⟨b, next, d, _, _, _, _, h8, _, _, h9⟩; (rw [(Prod.mk.inj h8).1]; exact Nat.zero_le _); (rw [(Prod.mk.inj h9).1]; exact h8)
      refine tlm ?_; refine tl_v rfl (o_extract rfl rfl) ?_; refine tl_v rfl (o_extract rfl rfl) ?_; refine tl_x rfl (o_alloc (l := [.int .i64 ((0 : Nat) : Int), .string (sob []), .int .i64 0]) z222 rfl) ?_; rintro _ _ ⟨b6, rfl, rfl⟩; refine tl_u rfl (o_stUN (l' := [.int .i64 ((l14.1 : Nat) : Int), .string (sob l14.2.1), .int .i64 l14.2.2]) rfl (by repeat (first | with_reducible exact upd_here | with_reducible exact upd_pt | apply upd_left)) sz222 rfl rfl rfl (by exact Nat.le_refl 3) rfl) ?_; refine tla ?_; refine tl_nil ?_; refine q_then_n ?_; refine tc_seq ?_; refine tc_reg ?_; refine tlm ?_; refine tl_v rfl (o_fieldAddr (o := 1) Tryz.underlying222 rfl rfl sz9 rfl) ?_; refine tl_v rfl (o_load p9 rfl (by repeat (first | with_reducible exact has_here | with_reducible exact has_pt | apply has_left)) rfl) ?_; refine tl_v rfl (o_lenS Tryz.underlying9 rfl) ?_; refine tl_env (d := 20) (v := .int .i64 ((l14.2.1.length : Nat) : Int)) (by show Value.int .i64 (((sob l14.2.1).size : Nat) : Int) = _; rw [sobN]) ?_; refine tl_v rfl (by first | exact o_addI rfl rfl (by omega) | exact o_add rfl rfl) ?_; refine tla ?_; refine tl_nil ?_; refine q_then_n ?_; refine tc_seq ?_; refine tc_seq ?_; refine tc_reg ?_; refine tlm ?_; refine tl_v rfl (o_gtr rfl rfl) ?_; refine tl_nil ?_; refine q_then_n ?_; refine tc_cond rfl (fun h => ?_) (fun h => ?_)
      · have hcut : cutL m l14 = (0, [], 140) := cut_no (by first | omega | (simp at h; omega))
        have hd := hp2.trans (ch_err (by omega) (by omega) hl14 (by rw [hcut]; decide))
        rw [hcut] at hd
        obtain ⟨hLn, hgd⟩ := drop_one hd
        have hkL : k < L.length := by omega
        refine tc_reg ?_; refine tl_v rfl (o_bS (l := [.int .i64 ((0 : Nat) : Int), .string (sob []), .int .i64 140]) (pv_cons (by conv => lhs; whnf) pv_nil) Tryz.underlying222 z222 (pl222 Tryz.underlying222) rfl) ?_; refine tl_u rfl (o_stUN (l' := [.int .i64 ((0 : Nat) : Int), .string (sob []), .int .i64 140]) rfl (by repeat (first | with_reducible exact upd_here | with_reducible exact upd_pt | apply upd_left)) sz222 rfl rfl rfl (by exact Nat.le_refl 3) rfl) ?_; refine tl_nil ?_; refine q_then_n ?_; refine tc_seq ?_; refine tc_seq ?_; refine tc_reg ?_; refine tlm ?_; refine tl_v rfl (o_loadN a222 sz222 rfl (by repeat (first | with_reducible exact has_here | with_reducible exact has_pt | apply has_left)) (by exact Nat.le_refl 3) rfl) ?_; refine tl_env (d := 26) (v := lkV (L.getD k (0, [], 0))) (by rw [hgd]; rfl) ?_; refine tl_y rfl rfl rfl (yd_b (F := pt q1 (cl [.int .u32 ((ref : Nat) : Int)] 32) * pt q2 (cl [.pointer (some ⟨X.w, 0, none⟩)] 28) * WkA X Y s * pt b6 (cl [.int .i64 ((0 : Nat) : Int), .string (sob []), .int .i64 140] 222)) (G := fun S' => S' * pt q1 (cl [.int .u32 ((ref : Nat) : Int)] 32) * pt q2 (cl [.pointer (some ⟨X.w, 0, none⟩)] 28) * WkA X Y s * pt b6 (cl [.int .i64 ((0 : Nat) : Int), .string (sob []), .int .i64 140] 222)) (hY _ k S hkL hp1) (by ac_rfl) (fun S' => by ac_rfl)) ?_; rintro _ _ ⟨b27, S2, rfl, hT, hF, rfl⟩; refine tl_v rfl (o_not rfl) ?_; refine tlm ?_; refine tl_bool (d := 29) rfl (fun h => ?_) (fun h => ?_)
        · have hb9 : b27 = false := by simpa using h
          subst hb9
          refine tl_skip rfl ?_; refine tl_skip rfl ?_; refine tl_skip rfl ?_; refine tl_v rfl (o_pick_t rfl (by conv => lhs; whnf)) ?_; refine tl_nil ?_; refine q_then_n ?_; refine tc_cond_t rfl ?_; refine tc_ret ?_; refine q_then_r (q_block_r (q_then_r (q_block_r ?_))); exact ⟨[], _, rfl, fun _ _ h => mk0 h, .tuple #[], S2 * pt q1 (cl [.int .u32 ((ref : Nat) : Int)] 32) * pt q2 (cl [.pointer (some ⟨X.w, 0, none⟩)] 28) * WkA X Y s, res0 rfl, Dr.sat (by repeat (first | with_reducible exact dr_refl | apply dr_keep | apply dr_drop)), rfl, .inr ⟨S2, hF rfl, rfl⟩⟩
        · have hb9 : b27 = true := by simpa using h
          subst hb9
          refine tl_v rfl (o_fieldAddr (o := 2) Tryz.underlying222 rfl rfl sz33 rfl) ?_; refine tl_v rfl (by first | exact o_load p33 rfl (by repeat (first | with_reducible exact has_here | with_reducible exact has_pt | apply has_left)) rfl | exact o_loadC p33 rfl (by assumption)) ?_; refine tl_v rfl (o_nei rfl rfl) ?_; refine tl_v rfl (o_pick_f rfl (by conv => lhs; whnf)) ?_; refine tl_nil ?_; refine q_then_n ?_; refine tc_cond rfl (fun h => ?_) (fun h => ?_)
          · have he9 : True := trivial
            refine tc_ret ?_; refine q_then_r (q_block_r (q_then_r (q_block_r ?_))); exact ⟨[], _, rfl, fun _ _ h => mk0 h, .tuple #[], S2 * pt q1 (cl [.int .u32 ((ref : Nat) : Int)] 32) * pt q2 (cl [.pointer (some ⟨X.w, 0, none⟩)] 28) * WkA X Y s, res0 rfl, Dr.sat (by repeat (first | with_reducible exact dr_refl | apply dr_keep | apply dr_drop)), rfl, .inl ⟨S2, by rw [hLn]; exact hT rfl, rfl⟩⟩
          · exfalso; simp at h
      · have hm9 : ¬ 65536 < m + l14.2.1.length := by first | omega | (simp at h; omega)
        have hcut : cutL m l14 = l14 := cut_ok hm9
        have hgk : k < L.length ∧ L.getD k (0, [], 0) = l14 := by by_cases h8 : l14.2.2 = 0; (have hd := hp2.trans (ch_ok (by omega) (by omega) hl14 (by rw [hcut]; exact h8)); rw [hcut] at hd; have := drop_more hd; exact ⟨by omega, this.2.1⟩); (have hd := hp2.trans (ch_err (by omega) (by omega) hl14 (by rw [hcut]; exact h8)); rw [hcut] at hd; have := drop_one hd; exact ⟨by omega, this.2⟩)
        obtain ⟨hkL, hgd⟩ := hgk
        refine tc_skip ?_; refine q_then_n ?_; refine tc_seq ?_; refine tc_seq ?_; refine tc_reg ?_; refine tlm ?_; refine tl_v rfl (o_loadN a222 sz222 rfl (by repeat (first | with_reducible exact has_here | with_reducible exact has_pt | apply has_left)) (by exact Nat.le_refl 3) rfl) ?_; refine tl_env (d := 26) (v := lkV (L.getD k (0, [], 0))) (by rw [hgd]; rfl) ?_; refine tl_y rfl rfl rfl (yd_b (F := pt q1 (cl [.int .u32 ((ref : Nat) : Int)] 32) * pt q2 (cl [.pointer (some ⟨X.w, 0, none⟩)] 28) * WkA X Y s * pt b6 (cl [.int .i64 ((l14.1 : Nat) : Int), .string (sob l14.2.1), .int .i64 l14.2.2] 222)) (G := fun S' => S' * pt q1 (cl [.int .u32 ((ref : Nat) : Int)] 32) * pt q2 (cl [.pointer (some ⟨X.w, 0, none⟩)] 28) * WkA X Y s * pt b6 (cl [.int .i64 ((l14.1 : Nat) : Int), .string (sob l14.2.1), .int .i64 l14.2.2] 222)) (hY _ k S hkL hp1) (by ac_rfl) (fun S' => by ac_rfl)) ?_; rintro _ _ ⟨b27, S2, rfl, hT, hF, rfl⟩; refine tl_v rfl (o_not rfl) ?_; refine tlm ?_; refine tl_bool (d := 29) rfl (fun h => ?_) (fun h => ?_)
        · have hb9 : b27 = false := by simpa using h
          subst hb9
          refine tl_skip rfl ?_; refine tl_skip rfl ?_; refine tl_skip rfl ?_; refine tl_v rfl (o_pick_t rfl (by conv => lhs; whnf)) ?_; refine tl_nil ?_; refine q_then_n ?_; refine tc_cond_t rfl ?_; refine tc_ret ?_; refine q_then_r (q_block_r (q_then_r (q_block_r ?_))); exact ⟨[], _, rfl, fun _ _ h => mk0 h, .tuple #[], S2 * pt q1 (cl [.int .u32 ((ref : Nat) : Int)] 32) * pt q2 (cl [.pointer (some ⟨X.w, 0, none⟩)] 28) * WkA X Y s, res0 rfl, Dr.sat (by repeat (first | with_reducible exact dr_refl | apply dr_keep | apply dr_drop)), rfl, .inr ⟨S2, hF rfl, rfl⟩⟩
        · have hb9 : b27 = true := by simpa using h
          subst hb9
          refine tl_v rfl (o_fieldAddr (o := 2) Tryz.underlying222 rfl rfl sz33 rfl) ?_; refine tl_v rfl (by first | exact o_load p33 rfl (by repeat (first | with_reducible exact has_here | with_reducible exact has_pt | apply has_left)) rfl | exact o_loadC p33 rfl (by assumption)) ?_; refine tl_v rfl (o_nei rfl rfl) ?_; refine tl_v rfl (o_pick_f rfl (by conv => lhs; whnf)) ?_; refine tl_nil ?_; refine q_then_n ?_; refine tc_cond rfl (fun h => ?_) (fun h => ?_)
          · have he9 : l14.2.2 ≠ 0 := by first | exact of_decide_eq_true h | simpa using h
            have hd := hp2.trans (ch_err (by omega) (by omega) hl14 (by rw [hcut]; exact he9))
            rw [hcut] at hd
            obtain ⟨hLn, _⟩ := drop_one hd
            refine tc_ret ?_; refine q_then_r (q_block_r (q_then_r (q_block_r ?_))); exact ⟨[], _, rfl, fun _ _ h => mk0 h, .tuple #[], S2 * pt q1 (cl [.int .u32 ((ref : Nat) : Int)] 32) * pt q2 (cl [.pointer (some ⟨X.w, 0, none⟩)] 28) * WkA X Y s, res0 rfl, Dr.sat (by repeat (first | with_reducible exact dr_refl | apply dr_keep | apply dr_drop)), rfl, .inl ⟨S2, by rw [hLn]; exact hT rfl, rfl⟩⟩
          · have he9 : l14.2.2 = 0 := by simpa using h
            have hd := hp2.trans (ch_ok (by omega) (by omega) hl14 (by rw [hcut]; exact he9))
            rw [hcut] at hd
            obtain ⟨hLn, _, hdr⟩ := drop_more hd
            rw [Nat.sub_sub] at hdr
            obtain ⟨hnx, hd1⟩ : nx14 < 4294967296 ∧ 1 ≤ l14.2.1.length := by rcases hcs with h8 | ⟨b, next, d, _, _, _, h7, _, _, h8, h9⟩; (exfalso; rw [(Prod.mk.inj h8).1] at he9; exact absurd he9 (by decide)); (obtain ⟨h5, h6⟩ := Prod.mk.inj h9; exact ⟨by have : nx14 = next := h6; omega, by rw [h5]; exact h7⟩)
            refine tc_skip ?_; refine q_then_n ?_; refine tc_reg ?_; refine tlm ?_; refine tla ?_; refine tl_nil ?_; refine q_block_n (q_then_n ?_); exact ⟨_, by omega, k + 1, _, _, _, by omega, hT rfl, hdr, rfl, rfl, rfl, rfl, rfl, rfl, (by repeat (first | with_reducible exact dr_refl | apply dr_keep | apply dr_drop))⟩
    · obtain ⟨hk1, hk2, hk3, hr2⟩ := hp0
      obtain rfl : r2 = 0 := by first | omega | (simp at h; omega)
      refine tc_exit ?_; refine q_then_e (q_then_e (q_block_x ?_))
      have hLn : L.length = k := by rw [ch_zero] at hp2; have := congrArg List.length hp2; rw [List.length_drop, List.length_nil] at this; omega
      exact ⟨[], _, rfl, fun _ _ h => mk0 h, .tuple #[], S * pt q1 (cl [.int .u32 ((ref : Nat) : Int)] 32) * pt q2 (cl [.pointer (some ⟨X.w, 0, none⟩)] 28) * WkA X Y s, res0 rfl, Dr.sat (by repeat (first | with_reducible exact dr_refl | apply dr_keep | apply dr_drop)), rfl, .inl ⟨S, by rw [hLn]; exact hp1, rfl⟩⟩
end Rg
theorem chain_c {A : SP} {w : Nat} {ref : Nat} :
    Fn Tryz.prog 147 #[.pointer (some ⟨w, 0, none⟩), .int .u32 ((ref : Nat) : Int)] (A) (fun r B => ∃ q1 q2, r = .func (.func 201) #[] #[.pointer (some ⟨q1, 0, none⟩), .pointer (some ⟨q2, 0, none⟩)] ∧ B = A * pt q2 (cl [.pointer (some ⟨w, 0, none⟩)] 28) * pt q1 (cl [.int .u32 ((ref : Nat) : Int)] 32)) := by
  refine fn_enterW (args := [.pointer (some ⟨w, 0, none⟩), .int .u32 ((ref : Nat) : Int)]) Tryz.func147 rfl Tryz.ntmps147 (by simp) ?_; refine sr ?_; refine tl_x rfl (o_box rfl rfl) ?_; rintro _ _ ⟨b2, rfl, rfl⟩; refine tl_x rfl (o_box rfl rfl) ?_; rintro _ _ ⟨b3, rfl, rfl⟩; refine tla ?_; refine nq ?_; refine sr ?_; refine tv (o_makeFunc (fs := []) (cs := [.pointer (some ⟨b3, 0, none⟩), .pointer (some ⟨b2, 0, none⟩)]) rfl rfl) ?_; refine tla ?_; refine nq ?_; refine tc_ret ?_; exact ⟨_, _, res1 rfl rfl, fun _ _ h => h, b3, b2, rfl, rfl⟩
theorem chain_it {q1 q2 : Nat} {X : WkX} {Y : WkY} {T : WkT} {s : DevS} (hok : WkOk X Y T (s.ls.length * 64)) (hb : WkB X s) (ho : s.off = false) {ref : Nat} (hr1 : ref < 4294967296) {L : List Lk} (hL : chL (lnkS (usedB T) (conB T s X.ba)) 65538 ref 0 = L) : Rg.It Tryz.prog 201 [] [.pointer (some ⟨q1, 0, none⟩), .pointer (some ⟨q2, 0, none⟩)] (pt q1 (cl [.int .u32 ((ref : Nat) : Int)] 32) * pt q2 (cl [.pointer (some ⟨X.w, 0, none⟩)] 28) * WkA X Y s) L.length (fun i => [lkV (L.getD i (0, [], 0))]) := fun l J XX S0 h0 hY => by
  have hk : ∀ S : SP, S * (pt q1 (cl [.int .u32 ((ref : Nat) : Int)] 32) * pt q2 (cl [.pointer (some ⟨X.w, 0, none⟩)] 28) * WkA X Y s) = S * pt q1 (cl [.int .u32 ((ref : Nat) : Int)] 32) * pt q2 (cl [.pointer (some ⟨X.w, 0, none⟩)] 28) * WkA X Y s := fun S => starM3 _ _ _ _
  rw [hk S0]
  refine (Rg.chain1_f (J := J) (XX := XX) hok hb ho hr1 hL h0 hY).mono ?_; rintro v B ⟨rfl, ⟨S, hS, rfl⟩ | ⟨S, hS, rfl⟩⟩
  · exact ⟨rfl, .inl ⟨S, hS, (hk S).symm⟩⟩
  · exact ⟨rfl, .inr ⟨S, hS, (hk S).symm⟩⟩
theorem chL_len (f : Nat → Lk × Nat) : ∀ k ref m, (chL f k ref m).length ≤ k
  | 0, ref, m => by simp [chL]
  | k + 1, ref, m => by
    unfold chL
    split
    · simp
    · split
      · simp
      · rw [List.length_cons]; have := chL_len f k (f ref).2 (m + (f ref).1.2.1.length); omega
theorem chL_mem (f : Nat → Lk × Nat) : ∀ k ref m, ∀ x ∈ chL f k ref m, ∃ r m', r ≠ 0 ∧ x = cutL m' (f r).1
  | 0, ref, m, x, hx => by simp [chL] at hx
  | k + 1, ref, m, x, hx => by
    unfold chL at hx
    split at hx
    · cases hx
    · rename_i hr
      split at hx
      · rw [List.mem_singleton.1 hx]; exact ⟨ref, m, hr, rfl⟩
      · rcases List.mem_cons.1 hx with rfl | hx
        · exact ⟨ref, m, hr, rfl⟩
        · exact chL_mem f k _ _ x hx
/-- What a link of a chain is like. -/
theorem link_ok {u : Nat → Bool} {c : Nat → List Nat} (hb : ∀ b, u b = true → ∀ x ∈ c b, x < 256) {k ref m : Nat} : ∀ x ∈ chL (lnkS u c) k ref m, x.2.1.length ≤ 248 ∧ (∀ y ∈ x.2.1, y < 256) ∧ ((x.2.2 = 0 ∧ 1 ≤ x.2.1.length) ∨ x = (0, [], 140)) := fun x hx => by
  obtain ⟨r, m', hr, rfl⟩ := chL_mem _ _ _ _ x hx
  have hno : (([] : List Nat).length ≤ 248 ∧ (∀ y ∈ ([] : List Nat), y < 256)) := ⟨by decide, fun y hy => by cases hy⟩
  by_cases hc : 65536 < m' + (lnkS u c r).1.2.1.length
  · rw [cut_no hc]; exact ⟨hno.1, hno.2, .inr rfl⟩
  · rw [cut_ok hc]
    rcases lnk_cases u c r hr hb with h | ⟨b, next, d, rfl, h2, h3, h4, h5, h6, h7, h8⟩
    · rw [h]; exact ⟨hno.1, hno.2, .inr rfl⟩
    · rw [h8]
      refine ⟨h5, fun y hy => hb b h2 y ?_, .inl ⟨rfl, h4⟩⟩
      rw [h3]; unfold blkS
      exact List.mem_append_left _ (List.mem_append_right _ hy)
theorem fm_len {L : List Lk} (h : ∀ x ∈ L, x.2.1.length ≤ 248) : (L.flatMap (·.2.1)).length ≤ 248 * L.length := by
  induction L with
  | nil => simp
  | cons x l ih =>
    rw [List.flatMap_cons, List.length_append, List.length_cons]
    have h1 := h x (List.mem_cons_self ..)
    have h2 := ih fun y hy => h y (List.mem_cons_of_mem _ hy)
    omega
end Go.Vl

namespace Go.Vl
open Go Go.Proofs
theorem wh_all {u : Nat → Bool} {c : Nat → List Nat} {ref : Nat} {L : List Lk} (hL : chL (lnkS u c) 65538 ref 0 = L) (h : ∀ j, j < L.length → (L.getD j (0, [], 0)).2.2 = 0) : whS u c ref = (L.flatMap (·.2.1), L.map (·.1), 0) := by
  unfold whS whL
  rw [hL, if_pos (List.all_eq_true.2 fun x hx => by
    obtain ⟨j, hj, rfl⟩ := List.mem_iff_getElem.1 hx
    have := h j hj
    rw [List.getD_eq_getElem?_getD, List.getElem?_eq_getElem hj] at this
    exact decide_eq_true this)]
theorem wh_bad {u : Nat → Bool} {c : Nat → List Nat} {ref : Nat} {L : List Lk} {j : Nat} (hL : chL (lnkS u c) 65538 ref 0 = L) (hj : j < L.length) (h : (L.getD j (0, [], 0)).2.2 ≠ 0) : whS u c ref = ([], [], 140) := by
  unfold whS whL
  rw [hL, if_neg fun ha => h ?_]
  have := List.all_eq_true.1 ha L[j] (List.getElem_mem hj)
  rw [List.getD_eq_getElem?_getD, List.getElem?_eq_getElem hj]
  exact of_decide_eq_true this
theorem take_snoc' {L : List Lk} {i : Nat} (h : i < L.length) : L.take (i + 1) = L.take i ++ [L.getD i (0, [], 0)] := by
  rw [List.take_succ_eq_append_getElem h, List.getD_eq_getElem?_getD, List.getElem?_eq_getElem h]; rfl
theorem getD_mem' {L : List Lk} {i : Nat} (h : i < L.length) : L.getD i (0, [], 0) ∈ L := by
  rw [List.getD_eq_getElem?_getD, List.getElem?_eq_getElem h]; exact List.getElem_mem h
attribute [local irreducible] crk crL crc Sl pt ro Dev imgS recS readS recsF rdW rdO rkT Parts rvl recordsS runsL adrF kcl xcl kys runA runsF layF ovF TxA adZ WkA SlB blkS conB
namespace Rg
theorem whole_c {A R : SP} {C : SP → SP} {X : WkX} {Y : WkY} {T : WkT} {s : DevS} (hc : Ct A (WkA X Y s) R C := by repeat (first | with_reducible exact ct_here | apply ct_left)) (hok : WkOk X Y T (s.ls.length * 64)) (hb : WkB X s) (ho : s.off = false := by assumption) {ref : Nat} (hr1 : ref < 4294967296 := by omega) :
    Fn Tryz.prog 73 #[.pointer (some ⟨X.w, 0, none⟩), .int .u32 ((ref : Nat) : Int)] (A) (fun r B => ∃ t l e a n c, (whS (usedB T) (conB T s X.ba) ref) = (t, l, e) ∧ r = .tuple #[.string (sob t), .slice a n c, .int .i64 e] ∧ (l.length = n ∧ n ≤ c) ∧ B = A * Sl 1 (.slice a n c) n (ints (natI l))) := by
  refine fn_enterW (args := [.pointer (some ⟨X.w, 0, none⟩), .int .u32 ((ref : Nat) : Int)]) Tryz.func73 rfl Tryz.ntmps73 (by simp) ?_
  obtain ⟨hb1, hb2, hb3⟩ := id hb
  obtain ⟨rfl, hC⟩ := hc
  obtain ⟨L, hL⟩ : ∃ L, chL (lnkS (usedB T) (conB T s X.ba)) 65538 ref 0 = L := ⟨_, rfl⟩
  have hLk := link_ok (u := usedB T) (c := conB T s X.ba) (fun b _ => con_lt hok) (k := 65538) (ref := ref) (m := 0)
  rw [hL] at hLk
  have hLl := chL_len (lnkS (usedB T) (conB T s X.ba)) 65538 ref 0
  rw [hL] at hLl
  refine tc_seq ?_; refine tc_reg ?_; refine tl_x rfl (o_alloc (l := [.string (sob [])]) z9 rfl) ?_; rintro _ _ ⟨b4, rfl, rfl⟩; refine tl_x rfl (o_alloc (l := [.slice none 0 0]) z26 rfl) ?_; rintro _ _ ⟨b5, rfl, rfl⟩; refine tl_x rfl (o_alloc (l := [.int .i64 0]) z33 rfl) ?_; rintro _ _ ⟨b6, rfl, rfl⟩; refine tl_nil ?_; refine q_then_n ?_; refine tc_seq ?_; refine tc_seq ?_; refine tc_reg ?_; refine tlm ?_; refine tl_c rfl (o_call bd69 rfl (readyB_c (X := X) (Y := Y) (T := T) (s := s) (hok := hok) (hb := hb))) ?_; rintro _ _ ⟨rfl, rfl⟩; refine tla ?_; refine tl_nil ?_; refine q_then_n ?_; refine tc_seq ?_; refine tc_reg ?_; refine tlm ?_; refine tl_v rfl (o_nei rfl rfl) ?_; refine tl_nil ?_; refine q_then_n ?_; refine tc_cond rfl (fun h => ?_) (fun h => ?_)
  · exfalso; simp at h
  · try simp only [lv1, lv2, lv3, lv4, lv5, lv6, Bool.not_true, Bool.not_false] at h
    refine tc_skip ?_; refine q_then_n ?_; refine tc_seq ?_; refine tc_reg ?_; refine tl_x rfl (o_alloc (l := [.pointer none, .slice none 0 0]) z217 rfl) ?_; rintro _ _ ⟨b8, rfl, rfl⟩; refine tl_nil ?_; refine q_then_n ?_; refine tc_seq ?_; refine tc_reg ?_; refine tl_x rfl (o_alloc (l := [.slice none 0 0]) z26 rfl) ?_; rintro _ _ ⟨b9, rfl, rfl⟩; refine tl_nil ?_; refine q_then_n ?_; refine tc_seq ?_; refine tc_seq ?_; refine tc_reg ?_; refine tlm ?_; refine tlm ?_; refine tl_c rfl (o_call bd147 rfl (chain_c (w := X.w) (ref := ref))) ?_; rintro _ _ ⟨q18, q19, rfl, rfl⟩; refine tl_nil ?_; refine q_then_n ?_; refine tc_block ?_; refine tc_rangeI (K := (pt q18 (cl [.int .u32 ((ref : Nat) : Int)] 32) * pt q19 (cl [.pointer (some ⟨X.w, 0, none⟩)] 28) * WkA X Y s)) (N := L.length) (A0 := R * pt b4 (cl [.string (sob [])] 9) * pt b5 (cl [.slice none 0 0] 26) * pt b6 (cl [.int .i64 0] 33) * pt b9 (cl [.slice none 0 0] 26) * Sl 1 (.slice none 0 0) 0 (ints (natI [])) * pt b8 (cl [.pointer none, .slice none 0 0] 217) * SlB 5 (.slice none 0 0) 0 (bys [])) (fun i S => ∃ (p : Value) (ab : Option Addr) (n : Nat) (cb : Nat) (al : Option Addr) (c2 : Nat), (p = .pointer none ∨ p = .pointer (some ⟨b8, 0, none⟩)) ∧ (n = ((L.take i).flatMap (·.2.1)).length) ∧ (0 < n ∨ ab = none) ∧ (i ≤ c2) ∧ (∀ j, j < i → (L.getD j (0, [], 0)).2.2 = 0) ∧ S = R * pt b4 (cl [.string (sob [])] 9) * pt b5 (cl [.slice none 0 0] 26) * pt b6 (cl [.int .i64 0] 33) * pt b9 (cl [.slice al i c2] 26) * Sl 1 (.slice al i c2) i (ints (natI ((L.take i).map (·.1)))) * pt b8 (cl [p, .slice ab n cb] 217) * SlB 5 (.slice ab n cb) n (bys ((L.take i).flatMap (·.2.1)))) (fun j S => j = .ret ∧ ((whS (usedB T) (conB T s X.ba) ref) = ([], [], 140)) ∧ S = R * pt b4 (cl [.string (sob [])] 9) * pt b5 (cl [.slice none 0 0] 26) * pt b6 (cl [.int .i64 140] 33)) rfl bd201 (chain_it (X := X) (Y := Y) (T := T) (s := s) (q1 := q18) (q2 := q19) hok hb ho hr1 hL) (fun _ => rfl) rfl (fun _ _ h => (slb_nil (e := 5) (sl_nil (k := 1) h)).perm (by ac_rfl)) (⟨.pointer none, none, 0, 0, none, 0, .inl rfl, rfl, .inr rfl, by omega, by intro j hj; omega, rfl⟩) ?_ ?_ ?_
    · intro l F i S hi hI
      obtain ⟨p, ab, n, cb, al, c2, hi0, hi1, hi2, hi3, hi4, rfl⟩ := hI
      refine tc_eq (by simp only [← star_assoc]; rfl) ?_
      obtain ⟨x, hx⟩ : ∃ x, L.getD i (0, [], 0) = x := ⟨_, rfl⟩
      obtain ⟨hx1, hx2, hx3⟩ := hLk x (hx ▸ getD_mem' hi)
      have hnb := fm_len (L := L.take i) (fun y hy => (hLk y (List.mem_of_mem_take hy)).1)
      rw [List.length_take] at hnb
      have hsn := take_snoc' hi
      rw [hx] at hsn
      have htx : ((L.take (i + 1)).flatMap (·.2.1)) = ((L.take i).flatMap (·.2.1)) ++ sbys (sob x.2.1) := by rw [hsn, List.flatMap_append, sobB hx2]; simp
      have hnu : ((L.take (i + 1)).map (·.1)) = ((L.take i).map (·.1)) ++ [x.1] := by rw [hsn, List.map_append]; rfl
      refine tc_env (d := 19) (v := lkV x) (by rw [← hx]; rfl) ?_; refine tc_reg ?_; refine tl_x rfl (o_alloc (l := [.int .i64 ((0 : Nat) : Int), .string (sob []), .int .i64 0]) z222 rfl) ?_; rintro _ _ ⟨b10, rfl, rfl⟩; refine tl_u rfl (o_stUN (l' := [.int .i64 ((x.1 : Nat) : Int), .string (sob x.2.1), .int .i64 x.2.2]) rfl (by repeat (first | with_reducible exact upd_here | with_reducible exact upd_pt | apply upd_left)) sz222 rfl rfl rfl (by exact Nat.le_refl 3) rfl) ?_; refine tl_nil ?_; refine ⟨R * pt b4 (cl [.string (sob [])] 9) * pt b5 (cl [.slice none 0 0] 26) * pt b6 (cl [.int .i64 0] 33) * pt b9 (cl [.slice al i c2] 26) * Sl 1 (.slice al i c2) i (ints (natI ((L.take i).map (·.1)))) * pt b8 (cl [p, .slice ab n cb] 217) * SlB 5 (.slice ab n cb) n (bys ((L.take i).flatMap (·.2.1))) * pt b10 (cl [.int .i64 ((x.1 : Nat) : Int), .string (sob x.2.1), .int .i64 x.2.2] 222), fun g w h => by simp only [← star_assoc]; exact Dr.sat (by repeat (first | with_reducible exact dr_refl | apply dr_keep | apply dr_drop)) g w h, fun F => ?_⟩; refine tc_eq (by simp only [← star_assoc]; rfl) ?_; refine tc_block ?_; refine tc_seq ?_; refine tc_seq ?_; refine tc_reg ?_; refine tl_v rfl (o_fieldAddr (o := 2) Tryz.underlying222 rfl rfl sz33 rfl) ?_; refine tl_v rfl (by first | exact o_load p33 rfl (by repeat (first | with_reducible exact has_here | with_reducible exact has_pt | apply has_left)) rfl | exact o_loadC p33 rfl (by assumption)) ?_; refine tl_v rfl (o_nei rfl rfl) ?_
      refine tl_nil ?_; refine q_then_n ?_; refine tc_cond rfl (fun h => ?_) (fun h => ?_)
      · have hne : x.2.2 ≠ 0 := by first | exact of_decide_eq_true h | simpa using h
        have he140 : x.2.2 = 140 := by rcases hx3 with h8 | h8; exact absurd h8.1 hne; rw [h8]
        refine tc_seq ?_; refine tc_regh (S := F * R * pt b10 (cl [.int .i64 ((x.1 : Nat) : Int), .string (sob x.2.1), .int .i64 x.2.2] 222)) mo (by repeat (first | with_reducible exact dr_refl | apply dr_keep | apply dr_drop)) ?_
        show TH _ _ _ _ _ 5 #[ff,ff,ff,ff,ff] _ _
        refine th_take (i := 0) (listed' := #[tt,ff,ff,ff,ff]) rfl (by kernel_rfl) (by kernel_rfl) (by kernel_rfl) rfl rfl (o_fieldAddr (o := 2) Tryz.underlying222 rfl rfl sz33 rfl) ?_; refine th_two (i := 1) (j := 2) (by kernel_rfl) ?_ ?_
        · skip
          refine oh_v (i := 1) (listed' := #[tt,tt,ff,ff,ff]) rfl rfl rfl (by first | exact o_load p33 rfl (by repeat (first | with_reducible exact has_here | with_reducible exact has_pt | apply has_left)) rfl | exact o_loadC p33 rfl (by assumption)) ?_; refine th_env (d := 24) (v := .int .i64 140) (by show Value.int .i64 x.2.2 = _; rw [he140]) ?_; refine th_one (i := 2) (by kernel_rfl) ?_; refine oh_u (i := 2) (listed' := #[tt,tt,tt,ff,ff]) rfl rfl rfl (o_stU rfl (by repeat (first | with_reducible exact upd_here | with_reducible exact upd_pt | apply upd_left)) sz9 rfl rfl (by first | decide | simp | omega) rfl) (by repeat (first | with_reducible exact dr_refl | apply dr_keep | apply dr_drop)) ?_; refine th_one (i := 3) (by kernel_rfl) ?_; refine oh_u (i := 3) (listed' := #[tt,tt,tt,tt,ff]) rfl rfl rfl (o_stU rfl (by repeat (first | with_reducible exact upd_here | with_reducible exact upd_pt | apply upd_left)) sz26 rfl rfl (by first | decide | simp | omega) rfl) (by repeat (first | with_reducible exact dr_refl | apply dr_keep | apply dr_drop)) ?_; refine th_one (i := 4) (by kernel_rfl) ?_; refine oh_u (i := 4) (listed' := #[tt,tt,tt,tt,tt]) rfl rfl rfl (o_stU rfl (by repeat (first | with_reducible exact upd_here | with_reducible exact upd_pt | apply upd_left)) sz33 rfl rfl (by first | decide | simp | omega) rfl) (by repeat (first | with_reducible exact dr_refl | apply dr_keep | apply dr_drop)) ?_; refine th_done (by kernel_rfl) ?_
          refine q_then_n ?_; refine tc_ret ?_; refine q_then_r (q_block_r ?_); exact ⟨R * pt b4 (cl [.string (sob [])] 9) * pt b5 (cl [.slice none 0 0] 26) * pt b6 (cl [.int .i64 140] 33), fun g w h => by simp only [← star_assoc]; exact Dr.sat (by repeat (first | with_reducible exact dr_refl | apply dr_keep | apply dr_drop)) g w h, rfl, wh_bad hL hi (by rw [hx]; exact hne), rfl⟩
        · skip
          refine oh_u (i := 2) (listed' := #[tt,ff,tt,ff,ff]) rfl rfl rfl (o_stU rfl (by repeat (first | with_reducible exact upd_here | with_reducible exact upd_pt | apply upd_left)) sz9 rfl rfl (by first | decide | simp | omega) rfl) (by repeat (first | with_reducible exact dr_refl | apply dr_keep | apply dr_drop)) ?_; refine th_two (i := 1) (j := 3) (by kernel_rfl) ?_ ?_
          · skip
            refine oh_v (i := 1) (listed' := #[tt,tt,tt,ff,ff]) rfl rfl rfl (by first | exact o_load p33 rfl (by repeat (first | with_reducible exact has_here | with_reducible exact has_pt | apply has_left)) rfl | exact o_loadC p33 rfl (by assumption)) ?_; refine th_env (d := 24) (v := .int .i64 140) (by show Value.int .i64 x.2.2 = _; rw [he140]) ?_; refine th_one (i := 3) (by kernel_rfl) ?_; refine oh_u (i := 3) (listed' := #[tt,tt,tt,tt,ff]) rfl rfl rfl (o_stU rfl (by repeat (first | with_reducible exact upd_here | with_reducible exact upd_pt | apply upd_left)) sz26 rfl rfl (by first | decide | simp | omega) rfl) (by repeat (first | with_reducible exact dr_refl | apply dr_keep | apply dr_drop)) ?_; refine th_one (i := 4) (by kernel_rfl) ?_; refine oh_u (i := 4) (listed' := #[tt,tt,tt,tt,tt]) rfl rfl rfl (o_stU rfl (by repeat (first | with_reducible exact upd_here | with_reducible exact upd_pt | apply upd_left)) sz33 rfl rfl (by first | decide | simp | omega) rfl) (by repeat (first | with_reducible exact dr_refl | apply dr_keep | apply dr_drop)) ?_; refine th_done (by kernel_rfl) ?_; refine q_then_n ?_; refine tc_ret ?_; refine q_then_r (q_block_r ?_); exact ⟨R * pt b4 (cl [.string (sob [])] 9) * pt b5 (cl [.slice none 0 0] 26) * pt b6 (cl [.int .i64 140] 33), fun g w h => by simp only [← star_assoc]; exact Dr.sat (by repeat (first | with_reducible exact dr_refl | apply dr_keep | apply dr_drop)) g w h, rfl, wh_bad hL hi (by rw [hx]; exact hne), rfl⟩
          · skip
            refine oh_u (i := 3) (listed' := #[tt,ff,tt,tt,ff]) rfl rfl rfl (o_stU rfl (by repeat (first | with_reducible exact upd_here | with_reducible exact upd_pt | apply upd_left)) sz26 rfl rfl (by first | decide | simp | omega) rfl) (by repeat (first | with_reducible exact dr_refl | apply dr_keep | apply dr_drop)) ?_; refine th_one (i := 1) (by kernel_rfl) ?_; refine oh_v (i := 1) (listed' := #[tt,tt,tt,tt,ff]) rfl rfl rfl (by first | exact o_load p33 rfl (by repeat (first | with_reducible exact has_here | with_reducible exact has_pt | apply has_left)) rfl | exact o_loadC p33 rfl (by assumption)) ?_; refine th_env (d := 24) (v := .int .i64 140) (by show Value.int .i64 x.2.2 = _; rw [he140]) ?_; refine th_one (i := 4) (by kernel_rfl) ?_; refine oh_u (i := 4) (listed' := #[tt,tt,tt,tt,tt]) rfl rfl rfl (o_stU rfl (by repeat (first | with_reducible exact upd_here | with_reducible exact upd_pt | apply upd_left)) sz33 rfl rfl (by first | decide | simp | omega) rfl) (by repeat (first | with_reducible exact dr_refl | apply dr_keep | apply dr_drop)) ?_; refine th_done (by kernel_rfl) ?_; refine q_then_n ?_; refine tc_ret ?_; refine q_then_r (q_block_r ?_); exact ⟨R * pt b4 (cl [.string (sob [])] 9) * pt b5 (cl [.slice none 0 0] 26) * pt b6 (cl [.int .i64 140] 33), fun g w h => by simp only [← star_assoc]; exact Dr.sat (by repeat (first | with_reducible exact dr_refl | apply dr_keep | apply dr_drop)) g w h, rfl, wh_bad hL hi (by rw [hx]; exact hne), rfl⟩
      · have he0 : x.2.2 = 0 := by simpa using h
        have hx10 : 1 ≤ x.2.1.length := by rcases hx3 with h8 | h8; exact h8.2; (rw [h8] at he0; exact absurd he0 (by decide))
        refine tc_skip ?_; refine q_then_n ?_; refine tc_seq ?_; refine tc_reg ?_; refine tl_v rfl (o_fieldAddr (o := 1) Tryz.underlying222 rfl rfl sz9 rfl) ?_; refine tl_v rfl (by first | exact o_load p9 rfl (by repeat (first | with_reducible exact has_here | with_reducible exact has_pt | apply has_left)) rfl | exact o_loadC p9 rfl (by assumption)) ?_; refine tl_c rfl (o_call bd148 rfl (Fn.pre (bws_f (F * R * pt b4 (cl [.string (sob [])] 9) * pt b5 (cl [.slice none 0 0] 26) * pt b6 (cl [.int .i64 0] 33) * pt b9 (cl [.slice al i c2] 26) * Sl 1 (.slice al i c2) i (ints (natI ((L.take i).map (·.1)))) * pt b10 (cl [.int .i64 ((x.1 : Nat) : Int), .string (sob x.2.1), .int .i64 x.2.2] 222)) (a := ab) (c := cb) (xs := ((L.take i).flatMap (·.2.1))) (s := sob x.2.1) (m := x.2.1.length) hi0 (sobN _) hi1.symm (by omega)) (fun g w h => (Dr.sat (A' := F * R * pt b4 (cl [.string (sob [])] 9) * pt b5 (cl [.slice none 0 0] 26) * pt b6 (cl [.int .i64 0] 33) * pt b9 (cl [.slice al i c2] 26) * Sl 1 (.slice al i c2) i (ints (natI ((L.take i).map (·.1)))) * pt b8 (cl [p, .slice ab n cb] 217) * SlB 5 (.slice ab n cb) n (bys ((L.take i).flatMap (·.2.1))) * pt b10 (cl [.int .i64 ((x.1 : Nat) : Int), .string (sob x.2.1), .int .i64 x.2.2] 222)) (by repeat (first | with_reducible exact dr_refl | apply dr_keep | apply dr_drop)) g w h).perm (by ac_rfl)))) ?_; rintro _ _ ⟨a27, c27, rfl, rfl⟩; refine tl_nil ?_; refine q_then_n ?_; refine tc_reg ?_
        refine tl_v rfl (by first | exact o_load p26 rfl (by repeat (first | with_reducible exact has_here | with_reducible exact has_pt | apply has_left)) rfl | exact o_loadC p26 rfl (by assumption)) ?_; refine tl_v rfl (o_fieldAddr (o := 0) Tryz.underlying222 rfl rfl sz3 rfl) ?_; refine tl_v rfl (by first | exact o_load p3 rfl (by repeat (first | with_reducible exact has_here | with_reducible exact has_pt | apply has_left)) rfl | exact o_loadC p3 rfl (by assumption)) ?_; refine tl_x rfl (o_buildSlice1 Tryz.underlying26 sz3 z3 (by conv => lhs; whnf) rfl) ?_; rintro _ _ ⟨b31, rfl, rfl⟩; refine tl_x rfl (o_apB Tryz.underlying26 Tryz.underlying26 sz3 by3 z3 rfl (by decide) (by decide) rfl rfl rfl (by repeat (first | with_reducible exact ct_here | apply ct_left)) rfl (by first | exact bys_all _ | exact ints_all _ | exact wds_all _ | exact bos_all _ | rfl) (by first | omega | (simp only [bys_length, ints_length, wds_length, bos_length, List.length_append, List.length_take, List.length_drop, List.length_singleton]; omega)) (natI_snoc ((L.take i).map (·.1)) x.1)) ?_; rintro _ _ ⟨a32, c32, rfl, hc32, rfl⟩; refine tl_u rfl (o_stU rfl (by repeat (first | with_reducible exact upd_here | with_reducible exact upd_pt | apply upd_left)) sz26 rfl rfl (by first | decide | simp | omega) rfl) ?_; refine tl_nil ?_; refine q_block_n ?_; exact ⟨R * pt b4 (cl [.string (sob [])] 9) * pt b5 (cl [.slice none 0 0] 26) * pt b6 (cl [.int .i64 0] 33) * pt b9 (cl [.slice a32 (i + 1) c32] 26) * Sl 1 (.slice a32 (i + 1) c32) (i + 1) (ints (natI (((L.take i).map (·.1)) ++ [x.1]))) * pt b8 (cl [.pointer (some ⟨b8, 0, none⟩), .slice a27 (n + x.2.1.length) c27] 217) * SlB 5 (.slice a27 (n + x.2.1.length) c27) (n + x.2.1.length) (bys (((L.take i).flatMap (·.2.1)) ++ sbys (sob x.2.1))), fun g w h => by simp only [← star_assoc]; exact Dr.sat (by repeat (first | with_reducible exact dr_refl | apply dr_keep | apply dr_drop)) g w h, .pointer (some ⟨b8, 0, none⟩), a27, n + x.2.1.length, c27, a32, c32, .inr rfl, by rw [htx, List.length_append, sbys_len, sobN, ← hi1], .inl (by omega), hc32, by intro j hj; rcases Nat.lt_succ_iff_lt_or_eq.1 hj with h1 | rfl; exact hi4 j h1; rw [hx]; exact he0, by rw [htx, hnu]⟩
    · intro r S hI
      obtain ⟨p, ab, n, cb, al, c2, hi0, hi1, hi2, hi3, hi4, rfl⟩ := hI
      refine q_block_n (q_then_n ?_); refine tc_seq ?_; refine tc_eq (by rw [starM3, List.take_length]) ?_
      rw [List.take_length] at hi1
      refine tc_regh (S := R) mo (by repeat (first | with_reducible exact dr_refl | apply dr_keep | apply dr_drop)) ?_
      show TH _ _ _ _ _ 5 #[ff,ff,ff,ff,ff] _ _
      refine th_two (i := 0) (j := 1) (by kernel_rfl) ?_ ?_
      · skip
        refine oh_c (i := 0) (listed' := #[tt,ff,ff,ff,ff]) rfl rfl rfl (o_call bd149 rfl (Fn.pre (bs_f (R * pt b4 (cl [.string (sob [])] 9) * pt b5 (cl [.slice none 0 0] 26) * pt b6 (cl [.int .i64 0] 33) * pt b9 (cl [.slice al L.length c2] 26) * Sl 1 (.slice al L.length c2) L.length (ints (natI (L.map (·.1)))) * pt q18 (cl [.int .u32 ((ref : Nat) : Int)] 32) * pt q19 (cl [.pointer (some ⟨X.w, 0, none⟩)] 28) * WkA X Y s * pt r mkO) (n := n) (xs := L.flatMap (·.2.1)) hi1.symm hi2 (fun y hy => by obtain ⟨x, hx, h9⟩ := List.mem_flatMap.1 hy; exact (hLk x hx).2.1 y h9) (by rw [hi1]; have := fm_len (fun x hx => (hLk x hx).1); omega)) (fun g w h => (Dr.sat (A' := R * pt b4 (cl [.string (sob [])] 9) * pt b5 (cl [.slice none 0 0] 26) * pt b6 (cl [.int .i64 0] 33) * pt b9 (cl [.slice al L.length c2] 26) * Sl 1 (.slice al L.length c2) L.length (ints (natI (L.map (·.1)))) * pt b8 (cl [p, .slice ab n cb] 217) * SlB 5 (.slice ab n cb) n (bys (L.flatMap (·.2.1))) * pt q18 (cl [.int .u32 ((ref : Nat) : Int)] 32) * pt q19 (cl [.pointer (some ⟨X.w, 0, none⟩)] 28) * WkA X Y s * pt r mkO) (by repeat (first | with_reducible exact dr_refl | apply dr_keep | apply dr_drop)) g w h).perm (by ac_rfl)))) ?_; rintro _ _ ⟨rfl, rfl⟩; refine ⟨by repeat (first | with_reducible exact dr_refl | apply dr_keep | apply dr_drop), ?_⟩; refine th_two (i := 1) (j := 2) (by kernel_rfl) ?_ ?_
        · skip
          refine oh_v (i := 1) (listed' := #[tt,tt,ff,ff,ff]) rfl rfl rfl (by first | exact o_load p26 rfl (by repeat (first | with_reducible exact has_here | with_reducible exact has_pt | apply has_left)) rfl | exact o_loadC p26 rfl (by assumption)) ?_; refine th_one (i := 2) (by kernel_rfl) ?_; refine oh_u (i := 2) (listed' := #[tt,tt,tt,ff,ff]) rfl rfl rfl (o_stU rfl (by repeat (first | with_reducible exact upd_here | with_reducible exact upd_pt | apply upd_left)) sz9 rfl rfl (by first | decide | simp | omega) rfl) (by repeat (first | with_reducible exact dr_refl | apply dr_keep | apply dr_drop)) ?_; refine th_one (i := 3) (by kernel_rfl) ?_; refine oh_u (i := 3) (listed' := #[tt,tt,tt,tt,ff]) rfl rfl rfl (o_stU rfl (by repeat (first | with_reducible exact upd_here | with_reducible exact upd_pt | apply upd_left)) sz26 rfl rfl (by first | decide | simp | omega) rfl) (by repeat (first | with_reducible exact dr_refl | apply dr_keep | apply dr_drop)) ?_; refine th_one (i := 4) (by kernel_rfl) ?_; refine oh_u (i := 4) (listed' := #[tt,tt,tt,tt,tt]) rfl rfl rfl (o_stU rfl (by repeat (first | with_reducible exact upd_here | with_reducible exact upd_pt | apply upd_left)) sz33 rfl rfl (by first | decide | simp | omega) rfl) (by repeat (first | with_reducible exact dr_refl | apply dr_keep | apply dr_drop)) ?_; refine th_done (by kernel_rfl) ?_; refine q_then_n ?_; refine tc_ret ?_
          have hw9 := wh_all hL hi4
          exact ⟨[r], _, rfl, fun _ _ h => mk1 h, .tuple #[.string (sob (L.flatMap (·.2.1))), .slice al L.length c2, .int .i64 0], R * WkA X Y s * Sl 1 (.slice al L.length c2) L.length (ints (natI (L.map (·.1)))), resA3 rfl (rv_cell1 p9 rfl (by repeat (first | with_reducible exact has_here | with_reducible exact has_pt | apply has_left)) rfl) (rv_cell1 p26 rfl (by repeat (first | with_reducible exact has_here | with_reducible exact has_pt | apply has_left)) rfl) (rv_cell1 p33 rfl (by repeat (first | with_reducible exact has_here | with_reducible exact has_pt | apply has_left)) rfl), (fun g w h => (Dr.sat (A' := R * Sl 1 (.slice al L.length c2) L.length (ints (natI (L.map (·.1)))) * WkA X Y s) (by repeat (first | with_reducible exact dr_refl | apply dr_keep | apply dr_drop)) g w h).perm (by ac_rfl)), _, _, _, al, L.length, c2, hw9, rfl, ⟨by rw [List.length_map], hi3⟩, rfl⟩
        · skip
          refine oh_u (i := 2) (listed' := #[tt,ff,tt,ff,ff]) rfl rfl rfl (o_stU rfl (by repeat (first | with_reducible exact upd_here | with_reducible exact upd_pt | apply upd_left)) sz9 rfl rfl (by first | decide | simp | omega) rfl) (by repeat (first | with_reducible exact dr_refl | apply dr_keep | apply dr_drop)) ?_; refine th_one (i := 1) (by kernel_rfl) ?_; refine oh_v (i := 1) (listed' := #[tt,tt,tt,ff,ff]) rfl rfl rfl (by first | exact o_load p26 rfl (by repeat (first | with_reducible exact has_here | with_reducible exact has_pt | apply has_left)) rfl | exact o_loadC p26 rfl (by assumption)) ?_; refine th_one (i := 3) (by kernel_rfl) ?_; refine oh_u (i := 3) (listed' := #[tt,tt,tt,tt,ff]) rfl rfl rfl (o_stU rfl (by repeat (first | with_reducible exact upd_here | with_reducible exact upd_pt | apply upd_left)) sz26 rfl rfl (by first | decide | simp | omega) rfl) (by repeat (first | with_reducible exact dr_refl | apply dr_keep | apply dr_drop)) ?_; refine th_one (i := 4) (by kernel_rfl) ?_; refine oh_u (i := 4) (listed' := #[tt,tt,tt,tt,tt]) rfl rfl rfl (o_stU rfl (by repeat (first | with_reducible exact upd_here | with_reducible exact upd_pt | apply upd_left)) sz33 rfl rfl (by first | decide | simp | omega) rfl) (by repeat (first | with_reducible exact dr_refl | apply dr_keep | apply dr_drop)) ?_; refine th_done (by kernel_rfl) ?_; refine q_then_n ?_; refine tc_ret ?_
          have hw9 := wh_all hL hi4
          exact ⟨[r], _, rfl, fun _ _ h => mk1 h, .tuple #[.string (sob (L.flatMap (·.2.1))), .slice al L.length c2, .int .i64 0], R * WkA X Y s * Sl 1 (.slice al L.length c2) L.length (ints (natI (L.map (·.1)))), resA3 rfl (rv_cell1 p9 rfl (by repeat (first | with_reducible exact has_here | with_reducible exact has_pt | apply has_left)) rfl) (rv_cell1 p26 rfl (by repeat (first | with_reducible exact has_here | with_reducible exact has_pt | apply has_left)) rfl) (rv_cell1 p33 rfl (by repeat (first | with_reducible exact has_here | with_reducible exact has_pt | apply has_left)) rfl), (fun g w h => (Dr.sat (A' := R * Sl 1 (.slice al L.length c2) L.length (ints (natI (L.map (·.1)))) * WkA X Y s) (by repeat (first | with_reducible exact dr_refl | apply dr_keep | apply dr_drop)) g w h).perm (by ac_rfl)), _, _, _, al, L.length, c2, hw9, rfl, ⟨by rw [List.length_map], hi3⟩, rfl⟩
      · skip
        refine oh_v (i := 1) (listed' := #[ff,tt,ff,ff,ff]) rfl rfl rfl (by first | exact o_load p26 rfl (by repeat (first | with_reducible exact has_here | with_reducible exact has_pt | apply has_left)) rfl | exact o_loadC p26 rfl (by assumption)) ?_; refine th_one (i := 0) (by kernel_rfl) ?_; refine oh_c (i := 0) (listed' := #[tt,tt,ff,ff,ff]) rfl rfl rfl (o_call bd149 rfl (Fn.pre (bs_f (R * pt b4 (cl [.string (sob [])] 9) * pt b5 (cl [.slice none 0 0] 26) * pt b6 (cl [.int .i64 0] 33) * pt b9 (cl [.slice al L.length c2] 26) * Sl 1 (.slice al L.length c2) L.length (ints (natI (L.map (·.1)))) * pt q18 (cl [.int .u32 ((ref : Nat) : Int)] 32) * pt q19 (cl [.pointer (some ⟨X.w, 0, none⟩)] 28) * WkA X Y s * pt r mkO) (n := n) (xs := L.flatMap (·.2.1)) hi1.symm hi2 (fun y hy => by obtain ⟨x, hx, h9⟩ := List.mem_flatMap.1 hy; exact (hLk x hx).2.1 y h9) (by rw [hi1]; have := fm_len (fun x hx => (hLk x hx).1); omega)) (fun g w h => (Dr.sat (A' := R * pt b4 (cl [.string (sob [])] 9) * pt b5 (cl [.slice none 0 0] 26) * pt b6 (cl [.int .i64 0] 33) * pt b9 (cl [.slice al L.length c2] 26) * Sl 1 (.slice al L.length c2) L.length (ints (natI (L.map (·.1)))) * pt b8 (cl [p, .slice ab n cb] 217) * SlB 5 (.slice ab n cb) n (bys (L.flatMap (·.2.1))) * pt q18 (cl [.int .u32 ((ref : Nat) : Int)] 32) * pt q19 (cl [.pointer (some ⟨X.w, 0, none⟩)] 28) * WkA X Y s * pt r mkO) (by repeat (first | with_reducible exact dr_refl | apply dr_keep | apply dr_drop)) g w h).perm (by ac_rfl)))) ?_; rintro _ _ ⟨rfl, rfl⟩
        refine ⟨by repeat (first | with_reducible exact dr_refl | apply dr_keep | apply dr_drop), ?_⟩; refine th_one (i := 2) (by kernel_rfl) ?_; refine oh_u (i := 2) (listed' := #[tt,tt,tt,ff,ff]) rfl rfl rfl (o_stU rfl (by repeat (first | with_reducible exact upd_here | with_reducible exact upd_pt | apply upd_left)) sz9 rfl rfl (by first | decide | simp | omega) rfl) (by repeat (first | with_reducible exact dr_refl | apply dr_keep | apply dr_drop)) ?_; refine th_one (i := 3) (by kernel_rfl) ?_; refine oh_u (i := 3) (listed' := #[tt,tt,tt,tt,ff]) rfl rfl rfl (o_stU rfl (by repeat (first | with_reducible exact upd_here | with_reducible exact upd_pt | apply upd_left)) sz26 rfl rfl (by first | decide | simp | omega) rfl) (by repeat (first | with_reducible exact dr_refl | apply dr_keep | apply dr_drop)) ?_; refine th_one (i := 4) (by kernel_rfl) ?_; refine oh_u (i := 4) (listed' := #[tt,tt,tt,tt,tt]) rfl rfl rfl (o_stU rfl (by repeat (first | with_reducible exact upd_here | with_reducible exact upd_pt | apply upd_left)) sz33 rfl rfl (by first | decide | simp | omega) rfl) (by repeat (first | with_reducible exact dr_refl | apply dr_keep | apply dr_drop)) ?_; refine th_done (by kernel_rfl) ?_; refine q_then_n ?_; refine tc_ret ?_
        have hw9 := wh_all hL hi4
        exact ⟨[r], _, rfl, fun _ _ h => mk1 h, .tuple #[.string (sob (L.flatMap (·.2.1))), .slice al L.length c2, .int .i64 0], R * WkA X Y s * Sl 1 (.slice al L.length c2) L.length (ints (natI (L.map (·.1)))), resA3 rfl (rv_cell1 p9 rfl (by repeat (first | with_reducible exact has_here | with_reducible exact has_pt | apply has_left)) rfl) (rv_cell1 p26 rfl (by repeat (first | with_reducible exact has_here | with_reducible exact has_pt | apply has_left)) rfl) (rv_cell1 p33 rfl (by repeat (first | with_reducible exact has_here | with_reducible exact has_pt | apply has_left)) rfl), (fun g w h => (Dr.sat (A' := R * Sl 1 (.slice al L.length c2) L.length (ints (natI (L.map (·.1)))) * WkA X Y s) (by repeat (first | with_reducible exact dr_refl | apply dr_keep | apply dr_drop)) g w h).perm (by ac_rfl)), _, _, _, al, L.length, c2, hw9, rfl, ⟨by rw [List.length_map], hi3⟩, rfl⟩
    · intro r j S hX
      obtain ⟨rfl, hx0, rfl⟩ := hX
      refine jmp_r ?_; refine q_block_r (q_then_r ?_); exact ⟨[r], _, rfl, fun _ _ h => mk1 h, .tuple #[.string (sob []), .slice none 0 0, .int .i64 140], R * WkA X Y s * Sl 1 (.slice none 0 0) 0 (ints (natI [])), resA3 rfl (rv_cell1 p9 rfl (by repeat (first | with_reducible exact has_here | with_reducible exact has_pt | apply has_left)) rfl) (rv_cell1 p26 rfl (by repeat (first | with_reducible exact has_here | with_reducible exact has_pt | apply has_left)) rfl) (rv_cell1 p33 rfl (by repeat (first | with_reducible exact has_here | with_reducible exact has_pt | apply has_left)) rfl), (fun g w h => by rw [starM3] at h; exact sl_nil (Dr.sat (A' := R * WkA X Y s) (by repeat (first | with_reducible exact dr_refl | apply dr_keep | apply dr_drop)) g w h)), [], [], 140, none, 0, 0, hx0, rfl, ⟨rfl, Nat.le_refl _⟩, rfl⟩
end Rg
end Go.Vl

namespace Go.Vl
open Go Go.Proofs
theorem nodup_le {l : List Nat} {n : Nat} (h : l.Nodup) (hl : ∀ b ∈ l, b < n) : l.length ≤ n := by
  have := h.length_le_of_subset fun b hb => List.mem_range.2 (hl b hb)
  rwa [List.length_range] at this
theorem wh_list {u : Nat → Bool} {c : Nat → List Nat} {ref : Nat} {t l : List Nat} {e : Int} (hb : ∀ b, u b = true → ∀ x ∈ c b, x < 256) (h : whS u c ref = (t, l, e)) : l.Nodup ∧ (∀ b ∈ l, u b = true) ∧ (e = 0 ∨ (e = 140 ∧ t = [] ∧ l = [])) := by
  rcases wh_cases u c ref with ⟨t', l', h'⟩ | h'
  · rw [h'] at h
    simp only [Prod.mk.injEq] at h
    obtain ⟨rfl, rfl, rfl⟩ := h
    have := (wh_chn hb h').1
    exact ⟨chn_nodup this, chn_used this, .inl rfl⟩
  · rw [h'] at h
    simp only [Prod.mk.injEq] at h
    obtain ⟨rfl, rfl, rfl⟩ := h
    exact ⟨List.nodup_nil, fun b hb => (by cases hb), .inr ⟨rfl, rfl, rfl⟩⟩
theorem give_used {X : WkX} {Y : WkY} {T : WkT} {N b c : Nat} (h : WkOk X Y T N) (hb : usedB T b = true) : usedB (T.give b) c = (usedB T c && decide (c ≠ b)) := by
  unfold WkT.give
  cases ht : T.tk b with
  | true =>
    have hl := h.dj b ht
    rw [if_pos rfl]
    unfold usedB updG
    by_cases hc : c = b
    · subst hc; simp [hl]
    · simp [hc]
  | false =>
    rw [if_neg (by decide)]
    unfold usedB updG
    by_cases hc : c = b
    · subst hc; simp [ht]
    · simp [hc]
theorem foldl_snoc {α β : Type} (f : β → α → β) (b : β) (l : List α) (i : Nat) (h : i < l.length) : (l.take (i + 1)).foldl f b = f ((l.take i).foldl f b) l[i] := by
  rw [List.take_succ_eq_append_getElem h, List.foldl_append]; rfl
theorem mem_drop_ne {l : List Nat} {i : Nat} (h : l.Nodup) (hi : i < l.length) : ∀ b ∈ l.drop (i + 1), b ≠ l[i] := fun b hb e => by
  have h1 : (l.drop i).Nodup := h.sublist (List.drop_sublist _ _)
  rw [List.drop_eq_getElem_cons hi] at h1
  exact (List.nodup_cons.1 h1).1 (e ▸ hb)
attribute [local irreducible] crk crL crc Sl pt ro Dev imgS recS readS recsF rdW rdO rkT Parts rvl recordsS runsL adrF kcl xcl kys runA runsF layF ovF TxA adZ WkA SlB blkS conB
theorem GetB_c {A R : SP} {C : SP → SP} {X : WkX} {Y : WkY} {T : WkT} {s : DevS} (hc : Ct A (WkA X Y s) R C := by repeat (first | with_reducible exact ct_here | apply ct_left)) (hok : WkOk X Y T (s.ls.length * 64)) (hb : WkB X s) (ho : s.off = false := by assumption) {ref : Nat} (hr1 : ref < 4294967296 := by omega) :
    Fn Tryz.prog 22 #[.pointer (some ⟨X.w, 0, none⟩), .int .u32 ((ref : Nat) : Int)] (A) (fun r B => ∃ t l e, (whS (usedB T) (conB T s X.ba) ref) = (t, l, e) ∧ r = .tuple #[.string (sob t), .int .i64 e] ∧ A = B) := by
  refine fn_enterW (args := [.pointer (some ⟨X.w, 0, none⟩), .int .u32 ((ref : Nat) : Int)]) Tryz.func22 rfl Tryz.ntmps22 (by simp) ?_; refine sr ?_; refine tla ?_; refine tla ?_; refine nq ?_; refine sr ?_; refine tlm ?_; refine tlm ?_; refine tl_c rfl (o_call bd73 rfl (Rg.whole_c (hc := hc) (hok := hok) (hb := hb) (ref := ref))) ?_; rintro _ _ ⟨t12, l12, e12, a12, n12, c12, hw12, rfl, hlc12, rfl⟩; refine tlm ?_; refine tv (o_extract rfl rfl) ?_; refine tv (o_extract rfl rfl) ?_; refine tv (o_extract rfl rfl) ?_; refine tla ?_; refine tla ?_; refine tla ?_; refine nq ?_; refine sr ?_; refine tlm ?_; refine tlm ?_; refine tla ?_; refine tla ?_; refine nq ?_; refine tc_ret ?_; exact ⟨_, A, res2 rfl rfl rfl, Dr.sat (by repeat (first | with_reducible exact dr_refl | apply dr_keep | apply dr_drop)), t12, l12, e12, hw12, rfl, rfl⟩
theorem BlocksB_c {A R : SP} {C : SP → SP} {X : WkX} {Y : WkY} {T : WkT} {s : DevS} (hc : Ct A (WkA X Y s) R C := by repeat (first | with_reducible exact ct_here | apply ct_left)) (hok : WkOk X Y T (s.ls.length * 64)) (hb : WkB X s) (ho : s.off = false := by assumption) {ref : Nat} (hr1 : ref < 4294967296 := by omega) :
    Fn Tryz.prog 23 #[.pointer (some ⟨X.w, 0, none⟩), .int .u32 ((ref : Nat) : Int)] (A) (fun r B => ∃ t l e a n c, (whS (usedB T) (conB T s X.ba) ref) = (t, l, e) ∧ r = .tuple #[.slice a n c, .int .i64 e] ∧ (l.length = n ∧ n ≤ c) ∧ B = A * Sl 1 (.slice a n c) n (ints (natI l))) := by
  refine fn_enterW (args := [.pointer (some ⟨X.w, 0, none⟩), .int .u32 ((ref : Nat) : Int)]) Tryz.func23 rfl Tryz.ntmps23 (by simp) ?_; refine sr ?_; refine tla ?_; refine tla ?_; refine nq ?_; refine sr ?_; refine tlm ?_; refine tlm ?_; refine tl_c rfl (o_call bd73 rfl (Rg.whole_c (hc := hc) (hok := hok) (hb := hb) (ref := ref))) ?_; rintro _ _ ⟨t12, l12, e12, a12, n12, c12, hw12, rfl, hlc12, rfl⟩; refine tlm ?_; refine tv (o_extract rfl rfl) ?_; refine tv (o_extract rfl rfl) ?_; refine tv (o_extract rfl rfl) ?_; refine tla ?_; refine tla ?_; refine tla ?_; refine nq ?_; refine sr ?_; refine tlm ?_; refine tlm ?_; refine tla ?_; refine tla ?_; refine nq ?_; refine tc_ret ?_; exact ⟨_, _, res2 rfl rfl rfl, Dr.sat (by repeat (first | with_reducible exact dr_refl | apply dr_keep | apply dr_drop)), t12, l12, e12, a12, n12, c12, hw12, rfl, hlc12, rfl⟩
theorem DropB_c {A R : SP} {C : SP → SP} {X : WkX} {Y : WkY} {T : WkT} {s : DevS} (hc : Ct A (WkA X Y s) R C := by repeat (first | with_reducible exact ct_here | apply ct_left)) (hok : WkOk X Y T (s.ls.length * 64)) (hb : WkB X s) (ho : s.off = false := by assumption) {ref : Nat} (hr1 : ref < 4294967296 := by omega) :
    Fn Tryz.prog 17 #[.pointer (some ⟨X.w, 0, none⟩), .int .u32 ((ref : Nat) : Int)] (A) (fun r B => ∃ t l e Y2, (whS (usedB T) (conB T s X.ba) ref) = (t, l, e) ∧ r = .int .i64 e ∧ WkOk X Y2 (l.foldl WkT.give T) (s.ls.length * 64) ∧ B = C (WkA X Y2 s)) := by
  refine fn_enterW (args := [.pointer (some ⟨X.w, 0, none⟩), .int .u32 ((ref : Nat) : Int)]) Tryz.func17 rfl Tryz.ntmps17 (by simp) ?_
  obtain ⟨hb1, hb2, hb3⟩ := id hb
  obtain ⟨rfl, hC⟩ := hc
  refine sr ?_; refine tla ?_; refine nq ?_; refine sr ?_; refine tlm ?_; refine tlm ?_; refine tl_c rfl (o_call bd73 rfl (Rg.whole_c (X := X) (Y := Y) (T := T) (s := s) (hok := hok) (hb := hb) (ref := ref))) ?_; rintro _ _ ⟨t14, l14, e14, a14, n14, c14, hw14, rfl, hlc14, rfl⟩
  obtain ⟨hlc1, hlc2⟩ := hlc14
  obtain ⟨hnd, hus, _⟩ := wh_list (fun b _ => con_lt hok) hw14
  have hln : n14 ≤ 16384 := by rw [← hlc1]; have := nodup_le hnd (fun b hb => used_n hok (hus b hb)); omega
  refine tlm ?_; refine tv (o_extract rfl rfl) ?_; refine tv (o_extract rfl rfl) ?_; refine tv (o_extract rfl rfl) ?_; refine tla ?_; refine tla ?_; refine tla ?_; refine nq ?_; refine tc_seq ?_; refine sr ?_; refine tlm ?_; refine tv (o_len Tryz.underlying26 rfl) ?_; refine tlm ?_; refine nq ?_; refine tc_block ?_; refine tc_loop (fun kk ρ BB => ∃ (i : Nat) (Yi : WkY), (i ≤ n14) ∧ (WkOk X Yi ((l14.take i).foldl WkT.give T) (s.ls.length * 64)) ∧ (∀ b ∈ l14.drop i, usedB ((l14.take i).foldl WkT.give T) b = true) ∧ kk = n14 - i ∧ ρ 20 = .int .i64 ((i : Nat) : Int) ∧ ρ 0 = .pointer (some ⟨X.w, 0, none⟩) ∧ ρ 7 = .int .i64 e14 ∧ ρ 18 = .slice a14 n14 c14 ∧ ρ 19 = .int .i64 ((n14 : Nat) : Int) ∧ Dr BB (R * WkA X Yi s * Sl 1 (.slice a14 n14 c14) n14 (ints (natI l14)))) (m := n14 - (0)) ?_ ?_
  · exact ⟨0, Y, by omega, by rw [List.take_zero]; exact hok, by rw [List.take_zero, List.drop_zero]; exact hus, rfl, rfl, rfl, rfl, rfl, rfl, (by repeat (first | with_reducible exact dr_refl | apply dr_keep | apply dr_drop))⟩
  · intro k ρ B hI
    obtain ⟨i, Yi, hp0, hp1, hp2, hkk1, hE20, hE0, hE7, hE18, hE19, hBA⟩ := hI
    refine tc_pre hBA.sat ?_
    clear hBA
    refine tc_env (d := 20) hE20 ?_; refine tc_env (d := 0) hE0 ?_; refine tc_env (d := 7) hE7 ?_; refine tc_env (d := 18) hE18 ?_; refine tc_env (d := 19) hE19 ?_
    clear hE20 hE0 hE7 hE18 hE19
    refine sr ?_; refine tv (o_lss rfl rfl) ?_; refine nq ?_; refine tc_seq ?_; refine tc_cond rfl (fun h => ?_) (fun h => ?_)
    · have hi : i < l14.length := by first | omega | (simp at h; omega)
      obtain ⟨x, hx⟩ : ∃ x, l14[i] = x := ⟨_, rfl⟩
      have hxu := hp2 x (by rw [List.drop_eq_getElem_cons hi, hx]; exact List.mem_cons_self ..)
      refine tc_skip ?_; refine q_then_n ?_; refine tc_seq ?_; refine tc_block ?_; refine sr ?_; refine tv (o_ixP1 (a := a14) (j := i) Tryz.underlying26 sz3 rfl rfl (by omega) (nn_rs (xs := ints (natI l14)) (by repeat (first | with_reducible exact rs_sl | apply Rs.left)) (by rw [ints_length, natI_len]; omega))) ?_; refine tv (o_ldP (a := a14) (xs := ints (natI l14)) p3 rfl (by repeat (first | with_reducible exact rs_sl | apply Rs.left)) (natI_at hi)) ?_; refine tl_env (d := 23) (v := .int .i64 ((x : Nat) : Int)) (by show Value.int .i64 ((l14[i] : Nat) : Int) = _; rw [hx]) ?_; refine tla ?_; refine nq ?_; refine sr ?_; refine tlm ?_; refine tlm ?_; refine tl_c rfl (o_call bd74 rfl (Give13_ok (X := X) (Y := Yi) (T := (l14.take i).foldl WkT.give T) (s := s) (b := x) (hok := hp1) (hb := hb) (hu := hxu))) ?_; rintro _ _ ⟨Y26, rfl, hok26, rfl⟩; refine tla ?_; refine nq ?_; refine sr ?_; refine tlm ?_; refine tv (o_nei rfl rfl) ?_; refine nq ?_; refine tc_cond rfl (fun h => ?_) (fun h => ?_)
      · exfalso; simp at h
      · try simp only [lv1, lv2, lv3, lv4, lv5, lv6, Bool.not_true, Bool.not_false] at h
        refine tc_skip ?_; refine q_block_n (q_then_n ?_); refine tc_reg ?_; refine tv (by first | exact o_addI rfl rfl (by omega) | exact o_add rfl rfl) ?_; refine tlm ?_; refine nq ?_; exact ⟨_, by omega, i + 1, Y26, by omega, by rw [foldl_snoc _ _ _ _ hi, hx]; exact hok26, fun b hb => by rw [foldl_snoc _ _ _ _ hi, hx, give_used hp1 hxu, hp2 b (by rw [List.drop_eq_getElem_cons hi]; exact List.mem_cons_of_mem _ hb)]; have := mem_drop_ne hnd hi b hb; rw [hx] at this; simp [this], rfl, rfl, rfl, rfl, rfl, rfl, (by repeat (first | with_reducible exact dr_refl | apply dr_keep | apply dr_drop))⟩
    · obtain rfl : i = n14 := by first | omega | (simp at h; omega)
      rw [List.take_of_length_le (by omega)] at hp1
      refine tc_exit ?_; refine q_then_e (q_then_e (q_block_x (q_then_n ?_))); refine sr ?_; refine tlm ?_; refine tla ?_; refine nq ?_; refine tc_ret ?_; exact ⟨.int .i64 e14, C (WkA X Yi s), res1 rfl rfl, (fun g w h => by rw [hC]; exact Dr.sat (A' := R * WkA X Yi s) (by repeat (first | with_reducible exact dr_refl | apply dr_keep | apply dr_drop)) g w h), t14, l14, e14, Yi, hw14, rfl, hp1, rfl⟩
end Go.Vl

namespace Go.Vl
open Go Go.Proofs
/-- How many blocks a base has. -/
def nB (bl : Int) : Nat := (1 + (IntKind.i64.wrap (bl - 1)) % 60).toNat
theorem nB_b (bl : Int) : 1 ≤ nB bl ∧ nB bl ≤ 60 ∧ ((nB bl : Nat) : Int) = 1 + (IntKind.i64.wrap (bl - 1)) % 60 := by unfold nB; omega
def wasL (n : Nat) (live : List Nat) : List Bool := (List.range n).map fun c => decide (c ∈ live)
theorem wasL_nil (n : Nat) : wasL n [] = List.replicate n false := by
  unfold wasL
  refine List.ext_getElem (by simp) fun i h1 h2 => ?_
  simp
theorem wasL_len (n : Nat) (l : List Nat) : (wasL n l).length = n := by unfold wasL; simp
theorem wasL_at {n k : Nat} {l : List Nat} (h : k < n) : (bos (wasL n l))[k]? = some (.bool (decide (k ∈ l))) := by
  unfold bos wasL
  rw [List.map_map, List.getElem?_map, List.getElem?_range h]; rfl
theorem wasL_set {n k : Nat} {l : List Nat} (h : k < n) : (bos (wasL n l)).set k (.bool true) = bos (wasL n (l ++ [k])) := by
  unfold bos wasL
  rw [List.map_map, List.map_map]
  refine List.ext_getElem? fun i => ?_
  rw [List.getElem?_set]
  simp only [List.length_map, List.length_range, List.getElem?_map]
  by_cases hi : k = i
  · subst hi; rw [if_pos rfl, if_pos h, List.getElem?_range h]; simp
  · rw [if_neg hi]
    cases hr : (List.range n)[i]? with
    | none => rfl
    | some c =>
      have : c = i := by
        have hi' := (List.getElem?_eq_some_iff.1 hr).1
        rw [List.length_range] at hi'
        rw [List.getElem?_range hi'] at hr
        exact (Option.some.inj hr).symm
      subst this
      simp [show ¬ c = k from fun e => hi e.symm]
/-- A live block more. -/
def imS (n : Nat) (fs : List (List Nat)) (st : List Nat × List Nat) (z : Int) : List Nat × List Nat :=
  if (z % (n : Int)).toNat ∈ st.2 then st
  else (if st.2.length < fs.length then spl st.1 (16512 + 256 * (z % (n : Int)).toNat) ((fs.getD st.2.length []).take 256) else st.1, st.2 ++ [(z % (n : Int)).toNat])
/-- A base's image; its live blocks. -/
def imF (n : Nat) (fs : List (List Nat)) (ls : List Int) : List Nat × List Nat := ls.foldl (imS n fs) (List.replicate (16512 + 256 * n) 0, [])
theorem imF_nil (n : Nat) (fs : List (List Nat)) : imF n fs [] = (List.replicate (16512 + 256 * n) 0, []) := rfl
theorem imF_snoc {n : Nat} {fs : List (List Nat)} {ls : List Int} {i : Nat} {z : Int} (h : ls[i]? = some z) : imF n fs (ls.take (i + 1)) = imS n fs (imF n fs (ls.take i)) z := by
  unfold imF
  rw [List.take_add_one, h, List.foldl_append]; rfl
structure ImOk (n : Nat) (st : List Nat × List Nat) : Prop where
  len : st.1.length = 16512 + 256 * n
  lt : ∀ c ∈ st.2, c < n
  nd : st.2.Nodup
  by_ : ∀ x ∈ st.1, x < 256
  z : st.1.take 16512 = List.replicate 16512 0
theorem imS_ok {n : Nat} {fs : List (List Nat)} (hn : 0 < n) (hf : ∀ f ∈ fs, ∀ x ∈ f, x < 256) {st : List Nat × List Nat} (h : ImOk n st) (z : Int) : ImOk n (imS n fs st z) := by
  have hk : (z % (n : Int)).toNat < n := by
    have h1 := Int.emod_nonneg z (show (n : Int) ≠ 0 by omega)
    have h2 := Int.emod_lt_of_pos z (show (0 : Int) < n by omega)
    omega
  unfold imS
  by_cases hm : (z % (n : Int)).toNat ∈ st.2
  · rw [if_pos hm]; exact h
  · rw [if_neg hm]
    have hl2 : ∀ c ∈ st.2 ++ [(z % (n : Int)).toNat], c < n := fun c hc => by
      rcases List.mem_append.1 hc with h1 | h1
      · exact h.lt c h1
      · rw [List.mem_singleton.1 h1]; exact hk
    have hnd : (st.2 ++ [(z % (n : Int)).toNat]).Nodup := List.nodup_append.2 ⟨h.nd, by simp, fun a ha b hb e => by rw [List.mem_singleton.1 hb] at e; exact hm (e ▸ ha)⟩
    by_cases hi : st.2.length < fs.length
    · rw [if_pos hi]
      have hfl : ((fs.getD st.2.length []).take 256).length ≤ 256 := List.length_take_le _ _
      have hp : 16512 + 256 * (z % (n : Int)).toNat + ((fs.getD st.2.length []).take 256).length ≤ st.1.length := by rw [h.len]; omega
      refine ⟨by rw [spl_length hp]; exact h.len, hl2, hnd, fun x hx => ?_, ?_⟩
      · unfold spl at hx
        rcases List.mem_append.1 hx with h1 | h1
        · rcases List.mem_append.1 h1 with h2 | h2
          · exact h.by_ x (List.mem_of_mem_take h2)
          · have h3 := List.mem_of_mem_take h2
            rw [List.getD_eq_getElem?_getD, List.getElem?_eq_getElem hi] at h3
            exact hf _ (List.getElem_mem hi) x h3
        · exact h.by_ x (List.mem_of_mem_drop h1)
      · rw [spl_take_le hp (by omega)]; exact h.z
    · rw [if_neg hi]; exact ⟨h.len, hl2, hnd, h.by_, h.z⟩
theorem imF_ok {n : Nat} {fs : List (List Nat)} (hn : 0 < n) (hf : ∀ f ∈ fs, ∀ x ∈ f, x < 256) (ls : List Int) : ImOk n (imF n fs ls) := by
  unfold imF
  have : ∀ (ls : List Int) (st : List Nat × List Nat), ImOk n st → ImOk n (ls.foldl (imS n fs) st) := by
    intro ls
    induction ls with
    | nil => intro st h; exact h
    | cons z l ih => intro st h; exact ih _ (imS_ok hn hf h z)
  refine this ls _ ⟨by simp, by simp, List.nodup_nil, fun x hx => ?_, ?_⟩
  · rw [(List.mem_replicate.1 hx).2]; decide
  · show (List.replicate (16512 + 256 * n) 0).take 16512 = _
    rw [List.take_replicate, Nat.min_eq_left (by omega)]
/-- Rows of bytes that are read. -/
def RsRows (A : SP) (a : Option Addr) (fs : List (List Nat)) : Prop := ∃ vs : List Value, vs.length = fs.length ∧ Rs A a vs ∧ ∀ i (h : i < fs.length), ∃ b c, vs[i]? = some (.slice b fs[i].length c) ∧ fs[i].length ≤ c ∧ fs[i].length ≤ 140737488351232 ∧ Rs A b (bys fs[i])
attribute [local irreducible] crk crL crc Sl pt ro Dev imgS recS readS recsF rdW rdO rkT Parts rvl recordsS runsL adrF kcl xcl kys runA runsF layF ovF TxA adZ WkA SlB blkS conB imF
theorem within14_c {A : SP} {i n : Int} (hn : 0 < n ∧ n ≤ 9223372036854775807 := by omega) :
    Fn Tryz.prog 16 #[.int .i64 i, .int .i64 n] (A) (fun r B => r = .int .i64 (i % n) ∧ A = B) := by
  refine fn_enterW (args := [.int .i64 i, .int .i64 n]) Tryz.func16 rfl Tryz.ntmps16 (by simp) ?_
  have hb := tmod_lt' (a := i) hn.1
  refine sr ?_; refine tla ?_; refine nq ?_; refine sr ?_; refine tlm ?_; refine tlm ?_; refine tv (o_rem (a := i) (b := n) rfl rfl (by omega)) ?_; refine tla ?_; refine nq ?_; refine tc_seq ?_; refine sr ?_; refine tlm ?_; refine tv (o_lss rfl rfl) ?_; refine nq ?_; refine tc_cond rfl (fun h => ?_) (fun h => ?_)
  · try simp only [lv1, lv2, lv3, lv4, lv5, lv6, Bool.not_true, Bool.not_false] at h
    refine tc_reg ?_; refine tlm ?_; refine tlm ?_; refine tv (o_addI (a := i.tmod n) (b := n) rfl rfl (by omega)) ?_; refine tla ?_; refine nq ?_; refine sr ?_; refine tlm ?_; refine tla ?_; refine nq ?_; refine tc_ret ?_; exact ⟨.int .i64 (i.tmod n + n), A, res1 rfl rfl, fun _ _ h => h, by rw [within_neg hn.1 h], rfl⟩
  · try simp only [lv1, lv2, lv3, lv4, lv5, lv6, Bool.not_true, Bool.not_false] at h
    refine tc_skip ?_; refine q_then_n ?_; refine sr ?_; refine tlm ?_; refine tla ?_; refine nq ?_; refine tc_ret ?_; exact ⟨.int .i64 (i.tmod n), A, res1 rfl rfl, fun _ _ h => h, by rw [within_pos hn.1 h], rfl⟩
theorem image_c {A : SP} {bl : Int} {aL aF : Option Addr} {nL cL nF cF : Nat} {ls : List Int} {fs : List (List Nat)} (hbl : -9223372036854775808 ≤ bl ∧ bl ≤ 9223372036854775807) (hrL : Rs A aL (ints ls)) (hlL : ls.length = nL) (hLb : nL ≤ 140737488351232) (hrF : RsRows A aF fs) (hlF : fs.length = nF) (hFb : nF ≤ 140737488351232) (hfb : ∀ f ∈ fs, ∀ x ∈ f, x < 256) :
    Fn Tryz.prog 77 #[.agg ([.int .i64 bl, .slice aL nL cL, .slice aF nF cF] : List Value).toArray] (A) (fun r B => ∃ a m c a2 kl c2, r = .tuple #[.slice a m c, .slice a2 kl c2] ∧ (m = 16512 + 256 * nB bl ∧ m ≤ c ∧ kl = (imF (nB bl) fs ls).2.length ∧ kl ≤ c2) ∧ B = A * Sl 1 (.slice a m c) m (bys (imF (nB bl) fs ls).1) * Sl 1 (.slice a2 kl c2) kl (ints (natI (imF (nB bl) fs ls).2))) := by
  refine fn_enterW (args := [.agg ([.int .i64 bl, .slice aL nL cL, .slice aF nF cF] : List Value).toArray]) Tryz.func77 rfl Tryz.ntmps77 (by simp) ?_
  obtain ⟨hn1, hn2, hn3⟩ := nB_b bl
  obtain ⟨n, hn⟩ : ∃ n, nB bl = n := ⟨_, rfl⟩
  rw [hn] at hn1 hn2 hn3
  have hIm := imF_ok (n := n) (fs := fs) (by omega) hfb
  obtain ⟨vs, hv1, hv2, hv3⟩ := hrF
  refine sr ?_; refine tl_x rfl (o_box rfl rfl) ?_; rintro _ _ ⟨b1, rfl, rfl⟩; refine tla ?_; refine tla ?_; refine nq ?_; refine sr ?_; refine tv (o_fieldAddr (o := 0) Tryz.underlying43 rfl rfl sz3 rfl) ?_; refine tv (o_load p3 rfl (by repeat (first | with_reducible exact has_here | with_reducible exact has_pt | apply has_left)) rfl) ?_; refine tv (by first | exact o_subI rfl rfl (by omega) | exact o_sub rfl rfl) ?_; refine tl_c rfl (o_call bd16 rfl (within14_c (i := IntKind.i64.wrap (bl - 1)) (n := 60))) ?_; rintro _ _ ⟨rfl, rfl⟩; refine tv (o_addI rfl rfl (by omega)) ?_; refine tl_env (d := 16) (v := .int .i64 ((n : Nat) : Int)) (congrArg (Value.int .i64) hn3.symm) ?_; refine tla ?_; refine nq ?_; refine sr ?_; refine tlm ?_; refine tv (o_mulI rfl rfl (by omega)) ?_; refine tv (by first | exact o_addI rfl rfl (by omega) | exact o_add rfl rfl) ?_; refine tl_env (d := 19) (v := .int .i64 ((16512 + 256 * n : Nat) : Int)) (congrArg (Value.int .i64) (by omega)) ?_; refine tl_x rfl (o_makeSlice (len := (16512 + 256 * n)) (cap := (16512 + 256 * n)) Tryz.underlying57 sz5 by5 z5 rfl rfl rfl (by omega) (by omega) (by omega)) ?_; rintro _ _ ⟨b20, rfl, rfl⟩; refine tl_pre (fun _ _ h => sl_new (k := 1) (n := (16512 + 256 * n)) (cap := (16512 + 256 * n)) (xs := bys (List.replicate ((16512 + 256 * n)) 0)) h (by omega) (by simp) (by rw [Nat.mul_one, List.take_of_length_le (by simp)]; unfold bys; rw [List.map_replicate]; rfl)) ?_
  refine tla ?_; refine nq ?_; refine sr ?_; refine tla ?_; refine nq ?_; refine sr ?_; refine tlm ?_; refine tl_x rfl (o_makeSlice (len := n) (cap := n) Tryz.underlying146 sz4 by4 z4 rfl rfl rfl (by omega) (by omega) (by omega)) ?_; rintro _ _ ⟨b22, rfl, rfl⟩; refine tl_pre (fun _ _ h => sl_new (k := 1) (n := n) (cap := n) (xs := bos (wasL n [])) h (by omega) (by simp) (by rw [Nat.mul_one, List.take_of_length_le (by simp), wasL_nil]; unfold bos; rw [List.map_replicate])) ?_; refine tla ?_; refine nq ?_; refine tc_seq ?_; refine sr ?_; refine tla ?_; refine nq ?_; refine tc_block ?_; refine tc_pre (A' := A * pt b1 (cl [.int .i64 bl, .slice aL nL cL, .slice aF nF cF] 43) * Sl 1 (.slice (some ⟨b20, 0, none⟩) (16512 + 256 * n) (16512 + 256 * n)) (16512 + 256 * n) (bys (List.replicate (16512 + 256 * n) 0)) * Sl 1 (.slice (some ⟨b22, 0, none⟩) n n) n (bos (wasL n [])) * Sl 1 (.slice none 0 0) 0 (ints (natI []))) (fun _ _ h => sl_nil (Dr.sat (by repeat (first | with_reducible exact dr_refl | apply dr_keep | apply dr_drop)) _ _ h)) ?_; refine tc_loop (fun kk ρ BB => ∃ (i : Nat) (a6 : Option Addr) (kl : Nat) (c6 : Nat) (out : List Nat) (live : List Nat), (i ≤ nL) ∧ ((out, live) = imF n fs (ls.take i)) ∧ (live.length = kl ∧ kl ≤ c6) ∧ kk = nL - i ∧ ρ 6 = .slice a6 kl c6 ∧ ρ 8 = .int .i64 ((i : Nat) : Int) ∧ ρ 1 = .pointer (some ⟨b1, 0, none⟩) ∧ ρ 4 = .int .i64 ((n : Nat) : Int) ∧ ρ 5 = .slice (some ⟨b20, 0, none⟩) (16512 + 256 * n) (16512 + 256 * n) ∧ ρ 7 = .slice (some ⟨b22, 0, none⟩) n n ∧ Dr BB (A * pt b1 (cl [.int .i64 bl, .slice aL nL cL, .slice aF nF cF] 43) * Sl 1 (.slice (some ⟨b20, 0, none⟩) (16512 + 256 * n) (16512 + 256 * n)) (16512 + 256 * n) (bys out) * Sl 1 (.slice (some ⟨b22, 0, none⟩) n n) n (bos (wasL n live)) * Sl 1 (.slice a6 kl c6) kl (ints (natI live)))) (m := nL - (0)) ?_ ?_
  · exact ⟨0, none, 0, 0, List.replicate (16512 + 256 * n) 0, [], by omega, by rw [List.take_zero, imF_nil], by exact ⟨rfl, Nat.le_refl _⟩, rfl, rfl, rfl, rfl, rfl, rfl, rfl, (by repeat (first | with_reducible exact dr_refl | apply dr_keep | apply dr_drop))⟩
  · intro k ρ B hI
    obtain ⟨i, a6, kl, c6, out, live, hp0, hp1, hp2, hkk1, hE6, hE8, hE1, hE4, hE5, hE7, hBA⟩ := hI
    refine tc_pre hBA.sat ?_
    clear hBA
    refine tc_env (d := 6) hE6 ?_; refine tc_env (d := 8) hE8 ?_; refine tc_env (d := 1) hE1 ?_; refine tc_env (d := 4) hE4 ?_; refine tc_env (d := 5) hE5 ?_; refine tc_env (d := 7) hE7 ?_
    clear hE6 hE8 hE1 hE4 hE5 hE7
    refine tc_seq ?_; refine sr ?_; refine tlm ?_; refine tv (o_fieldAddr (o := 1) Tryz.underlying43 rfl rfl sz26 rfl) ?_; refine tv (o_load p26 rfl (by repeat (first | with_reducible exact has_here | with_reducible exact has_pt | apply has_left)) rfl) ?_; refine tv (o_len Tryz.underlying26 rfl) ?_; refine tv (o_lss rfl rfl) ?_; refine nq ?_; refine tc_cond rfl (fun h => ?_) (fun h => ?_)
    · have hi : i < ls.length := by first | omega | (simp at h; omega)
      obtain ⟨z, hz⟩ : ∃ z, ls[i] = z := ⟨_, rfl⟩
      have hz2 : ls[i]? = some z := by rw [List.getElem?_eq_getElem hi, hz]
      have hsn := imF_snoc (n := n) (fs := fs) hz2
      rw [← hp1] at hsn
      have hio : ImOk n (out, live) := by rw [hp1]; exact hIm _
      obtain ⟨hk1, hk2⟩ := hp2
      have hw0 := Int.emod_nonneg z (show (n : Int) ≠ 0 by omega)
      have hw1 := Int.emod_lt_of_pos z (show (0 : Int) < n by omega)
      obtain ⟨q, hq⟩ : ∃ q : Nat, z % (n : Int) = q := ⟨(z % (n : Int)).toNat, by omega⟩
      have hqn : q < n := by omega
      unfold imS at hsn
      rw [hq, Int.toNat_natCast] at hsn
      have hol : out.length = 16512 + 256 * n := hio.len
      have hkn : live.length ≤ n := nodup_le hio.nd hio.lt
      refine tc_skip ?_; refine q_then_n ?_; refine tc_seq ?_; refine tc_block ?_; refine sr ?_; refine tv (o_fieldAddr (o := 1) Tryz.underlying43 rfl rfl sz26 rfl) ?_; refine tv (o_load p26 rfl (by repeat (first | with_reducible exact has_here | with_reducible exact has_pt | apply has_left)) rfl) ?_; refine tlm ?_; refine tv (o_ixP1 (a := aL) (j := i) Tryz.underlying26 sz3 rfl rfl (by omega) (nn_rs (xs := ints ls) (by repeat (first | exact hrL | apply Rs.left)) (by rw [ints_length]; omega))) ?_; refine tv (o_ldP (a := aL) (xs := ints ls) p3 rfl (by repeat (first | exact hrL | apply Rs.left)) (ints_at hi)) ?_; refine tl_env (d := 34) (v := .int .i64 z) (by show Value.int .i64 ls[i] = _; rw [hz]) ?_; refine tlm ?_; refine tl_c rfl (o_call bd16 rfl (within14_c (i := z) (n := (n : Int)))) ?_; rintro _ _ ⟨rfl, rfl⟩; refine tl_env (d := 36) (v := .int .i64 ((q : Nat) : Int)) (congrArg (Value.int .i64) hq) ?_; refine tla ?_; refine nq ?_; refine tc_seq ?_; refine sr ?_; refine tlm ?_; refine tlm ?_; refine tv (o_ixP1 (j := q) Tryz.underlying146 sz4 rfl rfl (by omega) (nn_rs (xs := bos (wasL n live)) (by repeat (first | with_reducible exact rs_sl | apply Rs.left)) (by rw [bos_length, wasL_len]; omega))) ?_; refine tv (o_ldP (xs := bos (wasL n live)) p4 rfl (by repeat (first | with_reducible exact rs_sl | apply Rs.left)) (wasL_at hqn)) ?_
      refine nq ?_; refine tc_cond rfl (fun h => ?_) (fun h => ?_)
      · have hql : q ∈ live := of_decide_eq_true h
        rw [if_pos hql] at hsn
        have hnx := hsn.symm
        have hcl : live.length = kl ∧ kl ≤ c6 := ⟨hk1, hk2⟩
        refine tc_exit ?_; refine q_then_e (q_block_x (q_then_n ?_)); refine tc_reg ?_; refine tlm ?_; refine tv (by first | exact o_addI rfl rfl (by omega) | exact o_add rfl rfl) ?_; refine tla ?_; refine nq ?_; exact ⟨_, by omega, i + 1, _, _, _, _, _, by omega, hnx, hcl, rfl, rfl, rfl, rfl, rfl, rfl, rfl, (by repeat (first | with_reducible exact dr_refl | apply dr_keep | apply dr_drop))⟩
      · have hql : q ∉ live := of_decide_eq_false h
        rw [if_neg hql] at hsn
        refine tc_skip ?_; refine q_then_n ?_; refine sr ?_; refine tlm ?_; refine tlm ?_; refine tv (o_ixP1 (j := q) Tryz.underlying146 sz4 rfl rfl (by omega) (nn_rs (xs := bos (wasL n live)) (by repeat (first | with_reducible exact rs_sl | apply Rs.left)) (by rw [bos_length, wasL_len]; omega))) ?_; refine tl_u rfl (o_stP (ys := bos (wasL n (live ++ [q]))) sz4 rfl rfl rfl (by repeat (first | with_reducible exact ct_here | apply ct_left)) (by omega) (wasL_set hqn)) ?_; refine nq ?_; refine tc_seq ?_; refine sr ?_; refine tlm ?_; refine tv (o_len Tryz.underlying26 rfl) ?_; refine tv (o_fieldAddr (o := 2) Tryz.underlying43 rfl rfl sz41 rfl) ?_; refine tv (o_load p41 rfl (by repeat (first | with_reducible exact has_here | with_reducible exact has_pt | apply has_left)) rfl) ?_; refine tv (o_len Tryz.underlying41 rfl) ?_; refine tv (o_lss rfl rfl) ?_; refine nq ?_; refine tc_cut (fun ρ BB => ∃ (o2 : List Nat), (o2 = (if live.length < fs.length then spl out (16512 + 256 * q) ((fs.getD live.length []).take 256) else out)) ∧ ρ 1 = .pointer (some ⟨b1, 0, none⟩) ∧ ρ 4 = .int .i64 ((n : Nat) : Int) ∧ ρ 5 = .slice (some ⟨b20, 0, none⟩) (16512 + 256 * n) (16512 + 256 * n) ∧ ρ 6 = .slice a6 kl c6 ∧ ρ 7 = .slice (some ⟨b22, 0, none⟩) n n ∧ ρ 8 = .int .i64 ((i : Nat) : Int) ∧ ρ 9 = .int .i64 ((q : Nat) : Int) ∧ Dr BB (A * pt b1 (cl [.int .i64 bl, .slice aL nL cL, .slice aF nF cF] 43) * Sl 1 (.slice (some ⟨b20, 0, none⟩) (16512 + 256 * n) (16512 + 256 * n)) (16512 + 256 * n) (bys o2) * Sl 1 (.slice (some ⟨b22, 0, none⟩) n n) n (bos (wasL n (live ++ [q]))) * Sl 1 (.slice a6 kl c6) kl (ints (natI live)))) ?_ ?_
        · skip
          refine tc_cond rfl (fun h => ?_) (fun h => ?_)
          · have hk3 : kl < fs.length := by first | omega | (simp at h; omega)
            obtain ⟨fb, fc, hv4, hv5, hv6, hv7⟩ := hv3 kl hk3
            obtain ⟨f, hf⟩ : ∃ f, fs[kl] = f := ⟨_, rfl⟩
            rw [hf] at hv4 hv5 hv6 hv7
            obtain ⟨gg, hgg⟩ : ∃ gg, f.take 256 = gg := ⟨_, rfl⟩
            have hgl : gg.length = min 256 f.length := by rw [← hgg, List.length_take]
            have hjo : spl out (16512 + 256 * q) gg = (if live.length < fs.length then spl out (16512 + 256 * q) ((fs.getD live.length []).take 256) else out) := by rw [if_pos (by omega), List.getD_eq_getElem?_getD, hk1, List.getElem?_eq_getElem hk3, hf, ← hgg]; rfl
            refine sr ?_; refine tv (o_fieldAddr (o := 2) Tryz.underlying43 rfl rfl sz41 rfl) ?_; refine tv (o_load p41 rfl (by repeat (first | with_reducible exact has_here | with_reducible exact has_pt | apply has_left)) rfl) ?_; refine tlm ?_; refine tv (o_len Tryz.underlying26 rfl) ?_; refine tv (o_ixP1 (a := aF) (j := kl) Tryz.underlying41 sz57 rfl rfl (by omega) (nn_rs (xs := vs) (by repeat (first | exact hv2 | apply Rs.left)) (by omega))) ?_; refine tv (o_ldP (a := aF) (xs := vs) p57 rfl (by repeat (first | exact hv2 | apply Rs.left)) hv4) ?_; refine tla ?_; refine nq ?_; refine sr ?_; refine tla ?_; refine nq ?_; refine tc_block ?_; refine tc_loop (fun kk ρ BB => ∃ (j : Nat), (j ≤ gg.length) ∧ kk = 256 - j ∧ ρ 11 = .int .i64 ((j : Nat) : Int) ∧ ρ 1 = .pointer (some ⟨b1, 0, none⟩) ∧ ρ 4 = .int .i64 ((n : Nat) : Int) ∧ ρ 5 = .slice (some ⟨b20, 0, none⟩) (16512 + 256 * n) (16512 + 256 * n) ∧ ρ 6 = .slice a6 kl c6 ∧ ρ 7 = .slice (some ⟨b22, 0, none⟩) n n ∧ ρ 8 = .int .i64 ((i : Nat) : Int) ∧ ρ 9 = .int .i64 ((q : Nat) : Int) ∧ ρ 10 = .slice fb f.length fc ∧ Dr BB (A * pt b1 (cl [.int .i64 bl, .slice aL nL cL, .slice aF nF cF] 43) * Sl 1 (.slice (some ⟨b20, 0, none⟩) (16512 + 256 * n) (16512 + 256 * n)) (16512 + 256 * n) (bys (spl out (16512 + 256 * q) (gg.take j))) * Sl 1 (.slice (some ⟨b22, 0, none⟩) n n) n (bos (wasL n (live ++ [q]))) * Sl 1 (.slice a6 kl c6) kl (ints (natI live)))) (m := 256 - (0)) ?_ ?_
            · exact ⟨0, by omega, rfl, rfl, rfl, rfl, rfl, rfl, rfl, rfl, rfl, rfl, (by rw [List.take_zero, spl_nil]; repeat (first | with_reducible exact dr_refl | apply dr_keep | apply dr_drop))⟩
            · intro k ρ B hI
              obtain ⟨j, hq0, hkk2, hE11, hE1, hE4, hE5, hE6, hE7, hE8, hE9, hE10, hBA⟩ := hI
              refine tc_pre hBA.sat ?_
              clear hBA
              refine tc_env (d := 11) hE11 ?_; refine tc_env (d := 1) hE1 ?_; refine tc_env (d := 4) hE4 ?_; refine tc_env (d := 5) hE5 ?_; refine tc_env (d := 6) hE6 ?_; refine tc_env (d := 7) hE7 ?_; refine tc_env (d := 8) hE8 ?_; refine tc_env (d := 9) hE9 ?_; refine tc_env (d := 10) hE10 ?_
              clear hE11 hE1 hE4 hE5 hE6 hE7 hE8 hE9 hE10
              refine tc_seq ?_; refine tc_seq ?_; refine tc_cut (fun ρ BB => ∃ (bb : Bool), (bb = decide (j < gg.length)) ∧ ρ 63 = .bool bb ∧ ρ 1 = .pointer (some ⟨b1, 0, none⟩) ∧ ρ 4 = .int .i64 ((n : Nat) : Int) ∧ ρ 5 = .slice (some ⟨b20, 0, none⟩) (16512 + 256 * n) (16512 + 256 * n) ∧ ρ 6 = .slice a6 kl c6 ∧ ρ 7 = .slice (some ⟨b22, 0, none⟩) n n ∧ ρ 8 = .int .i64 ((i : Nat) : Int) ∧ ρ 9 = .int .i64 ((q : Nat) : Int) ∧ ρ 10 = .slice fb f.length fc ∧ ρ 11 = .int .i64 ((j : Nat) : Int) ∧ Dr BB (A * pt b1 (cl [.int .i64 bl, .slice aL nL cL, .slice aF nF cF] 43) * Sl 1 (.slice (some ⟨b20, 0, none⟩) (16512 + 256 * n) (16512 + 256 * n)) (16512 + 256 * n) (bys (spl out (16512 + 256 * q) (gg.take j))) * Sl 1 (.slice (some ⟨b22, 0, none⟩) n n) n (bos (wasL n (live ++ [q]))) * Sl 1 (.slice a6 kl c6) kl (ints (natI live)))) ?_ ?_
              · skip
                refine tc_reg ?_; refine tlm ?_; refine tv (o_lss rfl rfl) ?_; refine tlm ?_; refine tl_bool (d := 58) rfl (fun h => ?_) (fun h => ?_)
                · try simp only [lv1, lv2, lv3, lv4, lv5, lv6, Bool.not_true, Bool.not_false] at h
                  refine tlm ?_; refine tlm ?_; refine tv (o_len Tryz.underlying57 rfl) ?_; refine tv (o_lss rfl rfl) ?_; refine tv (o_pick_t rfl (by conv => lhs; whnf)) ?_; refine tl_nil ?_; exact ⟨_, by first | exact (decide_eq_true (by omega)).symm | exact (decide_eq_false (by omega)).symm | (rw [decide_eq_decide]; omega), rfl, rfl, rfl, rfl, rfl, rfl, rfl, rfl, rfl, rfl, (by repeat (first | with_reducible exact dr_refl | apply dr_keep | apply dr_drop))⟩
                · try simp only [lv1, lv2, lv3, lv4, lv5, lv6, Bool.not_true, Bool.not_false] at h
                  refine tk ?_; refine tk ?_; refine tk ?_; refine tk ?_; refine tv (o_pick_f rfl (by conv => lhs; whnf)) ?_; refine tl_nil ?_; exact ⟨_, by first | exact (decide_eq_true (by omega)).symm | exact (decide_eq_false (by omega)).symm | (rw [decide_eq_decide]; omega), rfl, rfl, rfl, rfl, rfl, rfl, rfl, rfl, rfl, rfl, (by repeat (first | with_reducible exact dr_refl | apply dr_keep | apply dr_drop))⟩
              · intro ρ B hI
                obtain ⟨bb, hbb0, hE63, hE1, hE4, hE5, hE6, hE7, hE8, hE9, hE10, hE11, hBA⟩ := hI
                refine q_then_n ?_; refine tc_pre hBA.sat ?_
                clear hBA
                refine tc_env (d := 63) hE63 ?_; refine tc_env (d := 1) hE1 ?_; refine tc_env (d := 4) hE4 ?_; refine tc_env (d := 5) hE5 ?_; refine tc_env (d := 6) hE6 ?_; refine tc_env (d := 7) hE7 ?_; refine tc_env (d := 8) hE8 ?_; refine tc_env (d := 9) hE9 ?_; refine tc_env (d := 10) hE10 ?_; refine tc_env (d := 11) hE11 ?_
                clear hE63 hE1 hE4 hE5 hE6 hE7 hE8 hE9 hE10 hE11
                refine tc_cond rfl (fun h => ?_) (fun h => ?_)
                · have hj : j < gg.length := of_decide_eq_true (by rw [← hbb0]; exact h)
                  have hjf : j < f.length := by omega
                  obtain ⟨y, hy⟩ : ∃ y, gg[j] = y := ⟨_, rfl⟩
                  have hyf : f[j] = y := by rw [← hy]; subst hgg; rw [List.getElem_take]
                  refine tc_skip ?_; refine q_then_n ?_; refine tc_seq ?_; refine tc_block ?_; refine tc_reg ?_; refine tlm ?_; refine tlm ?_; refine tv (o_mulI rfl rfl (by omega)) ?_; refine tv (o_addI rfl rfl (by omega)) ?_; refine tlm ?_; refine tv (o_addI rfl rfl (by omega)) ?_; refine tl_env (d := 71) (v := .int .i64 ((16512 + 256 * q + j : Nat) : Int)) (congrArg (Value.int .i64) (by omega)) ?_; refine tlm ?_; refine tlm ?_; refine tv (o_ixP1 (a := fb) (j := j) Tryz.underlying57 sz5 rfl rfl (by omega) (nn_rs (xs := bys f) (by repeat (first | exact hv7 | apply Rs.left)) (by rw [bys_length]; omega))) ?_; refine tv (o_ldP (a := fb) (xs := bys f) p5 rfl (by repeat (first | exact hv7 | apply Rs.left)) (bys_at hjf)) ?_; refine tl_env (d := 75) (v := .int .u8 ((y : Nat) : Int)) (by show Value.int .u8 ((f[j] : Nat) : Int) = _; rw [hyf]) ?_; refine tv (o_ixP1 (j := 16512 + 256 * q + j) Tryz.underlying57 sz5 rfl rfl (by omega) (nn_rs (xs := bys (spl out (16512 + 256 * q) (gg.take j))) (by repeat (first | with_reducible exact rs_sl | apply Rs.left)) (by rw [bys_length, spl_length (by rw [List.length_take]; omega)]; omega))) ?_; refine tl_u rfl (o_stP (ys := bys (spl out (16512 + 256 * q) (gg.take (j + 1)))) sz5 rfl rfl rfl (by repeat (first | with_reducible exact ct_here | apply ct_left)) (by omega) (by rw [← spl_take hj (by omega), hy]; exact bys_set _ _ _)) ?_
                  refine tl_nil ?_; refine q_block_n (q_then_n ?_); refine tc_reg ?_; refine tlm ?_; refine tv (by first | exact o_addI rfl rfl (by omega) | exact o_add rfl rfl) ?_; refine tla ?_; refine nq ?_; exact ⟨_, by omega, j + 1, by omega, rfl, rfl, rfl, rfl, rfl, rfl, rfl, rfl, rfl, rfl, (by repeat (first | with_reducible exact dr_refl | apply dr_keep | apply dr_drop))⟩
                · have hj : ¬ j < gg.length := of_decide_eq_false (by rw [← hbb0]; exact h)
                  rw [List.take_of_length_le (show gg.length ≤ j by omega)]
                  refine tc_exit ?_; refine q_then_e (q_then_e (q_block_x ?_)); exact ⟨_, hjo, rfl, rfl, rfl, rfl, rfl, rfl, rfl, (by repeat (first | with_reducible exact dr_refl | apply dr_keep | apply dr_drop))⟩
          · have hk3 : ¬ kl < fs.length := by first | omega | (simp at h; omega)
            have hjo : out = (if live.length < fs.length then spl out (16512 + 256 * q) ((fs.getD live.length []).take 256) else out) := by rw [if_neg (by omega)]
            refine tc_skip ?_; exact ⟨_, hjo, rfl, rfl, rfl, rfl, rfl, rfl, rfl, (by repeat (first | with_reducible exact dr_refl | apply dr_keep | apply dr_drop))⟩
        · intro ρ B hI
          obtain ⟨o2, hj0, hE1, hE4, hE5, hE6, hE7, hE8, hE9, hBA⟩ := hI
          refine q_then_n ?_; refine tc_pre hBA.sat ?_
          clear hBA
          refine tc_env (d := 1) hE1 ?_; refine tc_env (d := 4) hE4 ?_; refine tc_env (d := 5) hE5 ?_; refine tc_env (d := 6) hE6 ?_; refine tc_env (d := 7) hE7 ?_; refine tc_env (d := 8) hE8 ?_; refine tc_env (d := 9) hE9 ?_
          clear hE1 hE4 hE5 hE6 hE7 hE8 hE9
          refine tc_reg ?_; refine tlm ?_; refine tlm ?_; refine tl_x rfl (o_buildSlice1 Tryz.underlying26 sz3 z3 (by conv => lhs; whnf) rfl) ?_; rintro _ _ ⟨b79, rfl, rfl⟩; refine tl_x rfl (o_apB Tryz.underlying26 Tryz.underlying26 sz3 by3 z3 rfl (by decide) (by decide) rfl rfl rfl (by repeat (first | with_reducible exact ct_here | apply ct_left)) rfl (by first | exact bys_all _ | exact ints_all _ | exact wds_all _ | exact bos_all _ | rfl) (by first | omega | (simp only [bys_length, ints_length, wds_length, bos_length, List.length_append, List.length_take, List.length_drop, List.length_singleton]; omega)) (natI_snoc live q)) ?_; rintro _ _ ⟨a80, c80, rfl, hc80, rfl⟩
          have hnx : (o2, live ++ [q]) = imF n fs (ls.take (i + 1)) := by rw [hsn, hj0]
          have hcl : (live ++ [q]).length = kl + 1 ∧ kl + 1 ≤ c80 := ⟨by rw [List.length_append, List.length_singleton]; omega, hc80⟩
          refine tla ?_; refine tl_nil ?_; refine q_block_n (q_then_n ?_); refine tc_reg ?_; refine tlm ?_; refine tv (by first | exact o_addI rfl rfl (by omega) | exact o_add rfl rfl) ?_; refine tla ?_; refine nq ?_; exact ⟨_, by omega, i + 1, _, _, _, _, _, by omega, hnx, hcl, rfl, rfl, rfl, rfl, rfl, rfl, rfl, (by repeat (first | with_reducible exact dr_refl | apply dr_keep | apply dr_drop))⟩
    · obtain rfl : i = nL := by first | omega | (simp at h; omega)
      rw [List.take_of_length_le (by omega)] at hp1
      obtain ⟨hk1, hk2⟩ := hp2
      have hio := hIm ls
      rw [← hp1] at hio
      refine tc_exit ?_; refine q_then_e (q_then_e (q_block_x (q_then_n ?_))); refine sr ?_; refine tlm ?_; refine tlm ?_; refine tla ?_; refine tla ?_; refine nq ?_; refine tc_ret ?_
      rw [hn, ← hp1]
      exact ⟨.tuple #[.slice (some ⟨b20, 0, none⟩) (16512 + 256 * n) (16512 + 256 * n), .slice a6 kl c6], _, res2 rfl rfl rfl, Dr.sat (by repeat (first | with_reducible exact dr_refl | apply dr_keep | apply dr_drop)), some ⟨b20, 0, none⟩, 16512 + 256 * n, 16512 + 256 * n, a6, kl, c6, rfl, ⟨rfl, Nat.le_refl _, hk1.symm, hk2⟩, rfl⟩
end Go.Vl

namespace Go.Vl
open Go Go.Proofs
theorem rdev_cell {A R : SP} {C : SP → SP} {r : Nat} {s : DevS} (hc : Ct A (RDev r s) R C) {i : Nat} {v : Value} (h : ∀ A lv rls av, RdevR A r lv rls av s → Cell A r i v) : Cell A r i v := fun g w hs => by
  rw [hc.1] at hs
  obtain ⟨hw, lv, rls, av, kvs, h1, h2, hs'⟩ := rdev_iff.1 hs
  exact h _ lv rls av (rdevR_of hw h1 hs') g w hs'
theorem cell_of_rs {A : SP} {b i : Nat} {xs : List Value} {v : Value} (h : Rs A (some ⟨b, 0, none⟩) xs) (hv : xs[i]? = some v) : Cell A b i v := fun g w hs => by
  obtain ⟨b', o, e, hc⟩ := h g w hs i v hv
  simp only [Option.some.injEq, Addr.mk.injEq, and_true] at e
  obtain ⟨rfl, rfl⟩ := e
  simpa using hc
theorem rdev_bytes {A R : SP} {C : SP → SP} {r : Nat} {s : DevS} (hc : Ct A (RDev r s) R C) : Cell A r 0 (.int .i64 ((s.ls.length * 64 : Nat) : Int)) := rdev_cell hc fun A lv rls av hR => cell_of_rs hR.d rfl
theorem rdev_gone {A R : SP} {C : SP → SP} {r : Nat} {s : DevS} (hc : Ct A (RDev r s) R C) : Cell A r 5 (.bool s.off) := rdev_cell hc fun A lv rls av hR => cell_of_rs hR.d rfl
attribute [local irreducible] crk crL crc Sl pt ro Dev imgS recS readS recsF rdW rdO rkT Parts rvl recordsS runsL adrF kcl xcl kys runA runsF layF ovF TxA adZ WkA SlB blkS conB imF RDev
theorem rNew12_c {A : SP} {r lg : Nat} :
    Fn Tryz.prog 82 #[.pointer (some ⟨r, 0, none⟩), .pointer (some ⟨lg, 0, none⟩)] (A) (fun v B => ∃ q, v = .tuple #[.pointer (some ⟨q, 0, none⟩), .int .i64 0] ∧ B = A * pt q (cl [.pointer (some ⟨r, 0, none⟩), .pointer (some ⟨lg, 0, none⟩), .pointer none] 235)) := by
  refine fn_enterW (args := [.pointer (some ⟨r, 0, none⟩), .pointer (some ⟨lg, 0, none⟩)]) Tryz.func82 rfl Tryz.ntmps82 (by simp) ?_; refine sr ?_; refine tla ?_; refine tla ?_; refine nq ?_; refine tc_seq ?_; refine sr ?_; refine tlm ?_; refine tv (o_eqp Tryz.underlying48 rfl rfl) ?_; refine tlm ?_; refine tl_bool (d := 8) rfl (fun h => ?_) (fun h => ?_)
  · exfalso; simp at h
  · try simp only [lv1, lv2, lv3, lv4, lv5, lv6, Bool.not_true, Bool.not_false] at h
    refine tlm ?_; refine tv (o_eqp Tryz.underlying152 rfl rfl) ?_; refine tv (o_pick_f rfl (by conv => lhs; whnf)) ?_; refine nq ?_; refine tc_cond rfl (fun h => ?_) (fun h => ?_)
    · exfalso; simp at h
    · try simp only [lv1, lv2, lv3, lv4, lv5, lv6, Bool.not_true, Bool.not_false] at h
      refine tc_skip ?_; refine q_then_n ?_; refine sr ?_; refine tlm ?_; refine tlm ?_; refine tv (o_bS (l := [_, _, _]) (pv_cons (by conv => lhs; whnf) (pv_cons (by conv => lhs; whnf) pv_nil)) Tryz.underlying235 z235 (pl235 Tryz.underlying235) rfl) ?_; refine tl_x rfl (o_box rfl rfl) ?_; rintro _ _ ⟨b15, rfl, rfl⟩; refine tla ?_; refine tla ?_; refine nq ?_; refine tc_ret ?_; exact ⟨_, _, res2 rfl rfl rfl, fun _ _ h => h, b15, rfl, rfl⟩
theorem rSize12_c {A R : SP} {C : SP → SP} {r : Nat} {s : DevS} (hc : Ct A (RDev r s) R C := by repeat (first | with_reducible exact ct_here | apply ct_left)) {q lg : Nat} {o : Value} (hq : Has A q (cl [.pointer (some ⟨r, 0, none⟩), .pointer (some ⟨lg, 0, none⟩), o] 235) := by (repeat (first | assumption | with_reducible exact has_here | with_reducible exact has_pt | apply has_left))) :
    Fn Tryz.prog 153 #[.pointer (some ⟨q, 0, none⟩)] (A) (fun v B => v = .int .i64 ((s.ls.length * 64 : Nat) : Int) ∧ A = B) := by
  refine fn_enterW (args := [.pointer (some ⟨q, 0, none⟩)]) Tryz.func153 rfl Tryz.ntmps153 (by simp) ?_; refine sr ?_; refine tla ?_; refine nq ?_; refine sr ?_; refine tlm ?_; refine tv (o_nilCheck rfl) ?_; refine tv (o_fieldAddr (o := 0) Tryz.underlying235 rfl rfl sz48 rfl) ?_; refine tv (o_load p48 rfl hq rfl) ?_; refine tv (o_nilCheck rfl) ?_; refine tv (o_fieldAddr (o := 0) Tryz.underlying195 rfl rfl sz3 rfl) ?_; refine tv (o_loadC p3 rfl (rdev_bytes hc)) ?_; refine tla ?_; refine nq ?_; refine tc_ret ?_; exact ⟨.int .i64 ((s.ls.length * 64 : Nat) : Int), _, res1 rfl rfl, Dr.sat (by repeat (first | with_reducible exact dr_refl | apply dr_keep | apply dr_drop)), rfl, rfl⟩
theorem rNew13_c {A R : SP} {C : SP → SP} {r : Nat} {s : DevS} (hc : Ct A (RDev r s) R C := by repeat (first | with_reducible exact ct_here | apply ct_left)) {q lg : Nat} {o : Value} (hq : Has A q (cl [.pointer (some ⟨r, 0, none⟩), .pointer (some ⟨lg, 0, none⟩), o] 235) := by (repeat (first | assumption | with_reducible exact has_here | with_reducible exact has_pt | apply has_left))) {at_ n : Nat} (h64 : at_ % 64 = 0) (h1 : 128 ≤ at_) (h2 : at_ + 256 * n ≤ s.ls.length * 64) (htop : s.ls.length * 64 ≤ 4194304) :
    Fn Tryz.prog 83 #[.pointer (some ⟨q, 0, none⟩), .int .i64 ((at_ : Nat) : Int), .int .i64 ((n : Nat) : Int)] (A) (fun v B => ∃ l hd, v = .tuple #[.pointer (some ⟨hd, 0, none⟩), .int .i64 0] ∧ B = A * Sl 1 (.slice (some ⟨l, 0, none⟩) n n) n (bos (wasL n [])) * pt hd (cl [.pointer (some ⟨q, 0, none⟩), .int .i64 ((at_ : Nat) : Int), .int .i64 ((n : Nat) : Int), .slice (some ⟨l, 0, none⟩) n n, .pointer none] 237)) := by
  refine fn_enterW (args := [.pointer (some ⟨q, 0, none⟩), .int .i64 ((at_ : Nat) : Int), .int .i64 ((n : Nat) : Int)]) Tryz.func83 rfl Tryz.ntmps83 (by simp) ?_; refine sr ?_; refine tla ?_; refine tla ?_; refine nq ?_; refine tc_seq ?_; refine sr ?_; refine tlm ?_; refine tv (o_eqp Tryz.underlying124 rfl rfl) ?_; refine nq ?_; refine tc_cond rfl (fun h => ?_) (fun h => ?_)
  · exfalso; simp at h
  · try simp only [lv1, lv2, lv3, lv4, lv5, lv6, Bool.not_true, Bool.not_false] at h
    refine tc_skip ?_; refine q_then_n ?_; refine tc_seq ?_; refine sr ?_; refine tlm ?_; refine tv (o_remI rfl rfl (by omega)) ?_; refine tv (o_nei rfl rfl) ?_; refine tlm ?_; refine tl_bool (d := 13) rfl (fun h => ?_) (fun h => ?_)
    · exfalso; first | (have h9 := of_decide_eq_true h; omega) | (simp at h; omega)
    · try simp only [lv1, lv2, lv3, lv4, lv5, lv6, Bool.not_true, Bool.not_false] at h
      refine tlm ?_; refine tv (o_lss rfl rfl) ?_; refine tv (o_pick_f rfl (by conv => lhs; whnf)) ?_; refine tlm ?_; refine tl_bool (d := 17) rfl (fun h => ?_) (fun h => ?_)
      · exfalso; first | (simp at h; done) | (simp at h; omega)
      · try simp only [lv1, lv2, lv3, lv4, lv5, lv6, Bool.not_true, Bool.not_false] at h
        refine tlm ?_; refine tv (o_lss rfl rfl) ?_; refine tv (o_pick_f rfl (by conv => lhs; whnf)) ?_; refine tlm ?_; refine tl_bool (d := 21) rfl (fun h => ?_) (fun h => ?_)
        · exfalso; first | (simp at h; done) | (simp at h; omega)
        · try simp only [lv1, lv2, lv3, lv4, lv5, lv6, Bool.not_true, Bool.not_false] at h
          refine tlm ?_; refine tlm ?_; refine tl_c rfl (o_call bd153 rfl (rSize12_c (hc := hc) (hq := hq))) ?_; rintro _ _ ⟨rfl, rfl⟩; refine tv (o_gtr rfl rfl) ?_; refine tv (o_pick_f rfl (by conv => lhs; whnf)) ?_; refine tlm ?_; refine tl_bool (d := 27) rfl (fun h => ?_) (fun h => ?_)
          · exfalso; first | (simp at h; done) | (simp at h; omega)
          · try simp only [lv1, lv2, lv3, lv4, lv5, lv6, Bool.not_true, Bool.not_false] at h
            refine tlm ?_; refine tlm ?_; refine tl_c rfl (o_call bd153 rfl (rSize12_c (hc := hc) (hq := hq))) ?_; rintro _ _ ⟨rfl, rfl⟩; refine tlm ?_; refine tv (o_subI rfl rfl (by omega)) ?_; refine tv (o_quoI rfl rfl (by omega)) ?_; refine tv (o_gtr rfl rfl) ?_; refine tv (o_pick_f rfl (by conv => lhs; whnf)) ?_; refine nq ?_; refine tc_cond rfl (fun h => ?_) (fun h => ?_)
            · exfalso; first | (have h9 := of_decide_eq_true h; omega) | (simp at h; omega)
            · try simp only [lv1, lv2, lv3, lv4, lv5, lv6, Bool.not_true, Bool.not_false] at h
              refine tc_skip ?_; refine q_then_n ?_; refine sr ?_; refine tlm ?_; refine tlm ?_; refine tlm ?_; refine tlm ?_; refine tl_x rfl (o_makeSlice (len := n) (cap := n) Tryz.underlying146 sz4 by4 z4 rfl rfl rfl (by omega) (by omega) (by omega)) ?_; rintro _ _ ⟨b40, rfl, rfl⟩; refine tl_pre (fun _ _ h => sl_new (k := 1) (n := n) (cap := n) (xs := bos (wasL n [])) h (by omega) (by simp) (by rw [Nat.mul_one, List.take_of_length_le (by simp), wasL_nil]; unfold bos; rw [List.map_replicate])) ?_; refine tv (o_bS (l := [_, _, _, _, _]) (pv_cons (by conv => lhs; whnf) (pv_cons (by conv => lhs; whnf) (pv_cons (by conv => lhs; whnf) (pv_cons (by conv => lhs; whnf) pv_nil)))) Tryz.underlying237 z237 (pl237 Tryz.underlying237) rfl) ?_; refine tl_x rfl (o_box rfl rfl) ?_; rintro _ _ ⟨b42, rfl, rfl⟩; refine tla ?_; refine tla ?_; refine nq ?_; refine tc_ret ?_; exact ⟨_, _, res2 rfl rfl rfl, fun _ _ h => h, b40, b42, rfl, rfl⟩
theorem rOpenH_c {A : SP} {hd q at_ n : Nat} {l : Value} (hh : Has A hd (cl [.pointer (some ⟨q, 0, none⟩), .int .i64 ((at_ : Nat) : Int), .int .i64 ((n : Nat) : Int), l, .pointer none] 237) := by (repeat (first | assumption | with_reducible exact has_here | with_reducible exact has_pt | apply has_left))) :
    Fn Tryz.prog 154 #[.pointer (some ⟨hd, 0, none⟩)] (A) (fun v B => v = .bool false ∧ A = B) := by
  refine fn_enterW (args := [.pointer (some ⟨hd, 0, none⟩)]) Tryz.func154 rfl Tryz.ntmps154 (by simp) ?_; refine sr ?_; refine tla ?_; refine nq ?_; refine sr ?_; refine tlm ?_; refine tv (o_nilCheck rfl) ?_; refine tv (o_fieldAddr (o := 4) Tryz.underlying237 rfl rfl sz50 rfl) ?_; refine tv (o_load p50 rfl hh rfl) ?_; refine tv (o_nep Tryz.underlying50 rfl rfl) ?_; refine tlm ?_; refine tl_bool (d := 8) rfl (fun h => ?_) (fun h => ?_)
  · exfalso; simp at h
  · try simp only [lv1, lv2, lv3, lv4, lv5, lv6, Bool.not_true, Bool.not_false] at h
    refine tk ?_; refine tk ?_; refine tk ?_; refine tk ?_; refine tk ?_; refine tk ?_; refine tk ?_; refine tk ?_; refine tv (o_pick_f rfl (by conv => lhs; whnf)) ?_; refine tla ?_; refine nq ?_; refine tc_ret ?_; exact ⟨.bool false, _, res1 rfl rfl, Dr.sat (by repeat (first | with_reducible exact dr_refl | apply dr_keep | apply dr_drop)), rfl, rfl⟩
theorem rLoad13_c {A R : SP} {hd q at_ n m c : Nat} {lv : Value} {a : Option Addr} {zs : List Nat} (hA : A = R * pt hd (cl [.pointer (some ⟨q, 0, none⟩), .int .i64 ((at_ : Nat) : Int), .int .i64 ((n : Nat) : Int), lv, .pointer none] 237)) (hr : Rs R a (ints (natI zs))) (hm : zs.length = m) (hnd : zs.Nodup) (hz : ∀ x ∈ zs, x < n) (hn : n ≤ 4194304) (hml : m ≤ 4194304) :
    Fn Tryz.prog 84 #[.pointer (some ⟨hd, 0, none⟩), .slice a m c] (A) (fun v B => ∃ l, v = .int .i64 0 ∧ B = R * pt hd (cl [.pointer (some ⟨q, 0, none⟩), .int .i64 ((at_ : Nat) : Int), .int .i64 ((n : Nat) : Int), .slice (some ⟨l, 0, none⟩) n n, .pointer none] 237) * Sl 1 (.slice (some ⟨l, 0, none⟩) n n) n (bos (wasL n zs))) := by
  refine fn_enterW (args := [.pointer (some ⟨hd, 0, none⟩), .slice a m c]) Tryz.func84 rfl Tryz.ntmps84 (by simp) ?_
  subst hA
  refine sr ?_; refine tla ?_; refine nq ?_; refine tc_seq ?_; refine sr ?_; refine tlm ?_; refine tl_c rfl (o_call bd154 rfl (rOpenH_c)) ?_; rintro _ _ ⟨rfl, rfl⟩; refine nq ?_; refine tc_cond rfl (fun h => ?_) (fun h => ?_)
  · exfalso; simp at h
  · try simp only [lv1, lv2, lv3, lv4, lv5, lv6, Bool.not_true, Bool.not_false] at h
    refine tc_skip ?_; refine q_then_n ?_; refine sr ?_; refine tlm ?_; refine tv (o_nilCheck rfl) ?_; refine tv (o_fieldAddr (o := 2) Tryz.underlying237 rfl rfl sz3 rfl) ?_; refine tv (o_load p3 rfl (by repeat (first | with_reducible exact has_here | with_reducible exact has_pt | apply has_left)) rfl) ?_; refine tl_x rfl (o_makeSlice (len := n) (cap := n) Tryz.underlying146 sz4 by4 z4 rfl rfl rfl (by omega) (by omega) (by omega)) ?_; rintro _ _ ⟨b13, rfl, rfl⟩; refine tl_pre (fun _ _ h => sl_new (k := 1) (n := n) (cap := n) (xs := bos (wasL n [])) h (by omega) (by simp) (by rw [Nat.mul_one, List.take_of_length_le (by simp), wasL_nil]; unfold bos; rw [List.map_replicate])) ?_; refine tla ?_; refine nq ?_; refine tc_seq ?_; refine sr ?_; refine tla ?_; refine nq ?_; refine tc_block ?_; refine tc_loop (fun kk ρ BB => ∃ (i : Nat), (i ≤ m) ∧ kk = m - i ∧ ρ 6 = .int .i64 ((i : Nat) : Int) ∧ ρ 0 = .pointer (some ⟨hd, 0, none⟩) ∧ ρ 1 = .slice a m c ∧ ρ 5 = .slice (some ⟨b13, 0, none⟩) n n ∧ Dr BB (R * pt hd (cl [.pointer (some ⟨q, 0, none⟩), .int .i64 ((at_ : Nat) : Int), .int .i64 ((n : Nat) : Int), lv, .pointer none] 237) * Sl 1 (.slice (some ⟨b13, 0, none⟩) n n) n (bos (wasL n (zs.take i))))) (m := m - (0)) ?_ ?_
    · exact ⟨0, by omega, rfl, rfl, rfl, rfl, rfl, (by rw [List.take_zero]; repeat (first | with_reducible exact dr_refl | apply dr_keep | apply dr_drop))⟩
    · intro k ρ B hI
      obtain ⟨i, hp0, hkk1, hE6, hE0, hE1, hE5, hBA⟩ := hI
      refine tc_pre hBA.sat ?_
      clear hBA
      refine tc_env (d := 6) hE6 ?_; refine tc_env (d := 0) hE0 ?_; refine tc_env (d := 1) hE1 ?_; refine tc_env (d := 5) hE5 ?_
      clear hE6 hE0 hE1 hE5
      refine tc_seq ?_; refine sr ?_; refine tlm ?_; refine tlm ?_; refine tv (o_len Tryz.underlying26 rfl) ?_; refine tv (o_lss rfl rfl) ?_; refine nq ?_; refine tc_cond rfl (fun h => ?_) (fun h => ?_)
      · have hi : i < zs.length := by first | omega | (simp at h; omega)
        obtain ⟨x, hx1⟩ : ∃ x, zs[i] = x := ⟨_, rfl⟩
        have hxn : x < n := hx1 ▸ hz _ (List.getElem_mem hi)
        have hxo : x ∉ zs.take i := by have := nodup_at hnd hi; rw [hx1] at this; exact of_decide_eq_false this
        have htk : zs.take (i + 1) = zs.take i ++ [x] := by rw [List.take_succ_eq_append_getElem hi, hx1]
        refine tc_skip ?_; refine q_then_n ?_; refine tc_seq ?_; refine tc_block ?_; refine tc_seq ?_; refine tc_seq ?_; refine tc_regq mo (by kernel_rfl) ?_; refine ql_v rfl (o_move (by conv => lhs; whnf)) ?_; refine ql_v rfl (o_move (by conv => lhs; whnf)) ?_; refine ql_v rfl (o_ixP1 (a := a) (j := i) Tryz.underlying26 sz3 rfl rfl (by omega) (nn_rs (xs := ints (natI zs)) (by repeat (first | exact hr | apply Rs.left)) (by rw [ints_length, natI_len]; omega))) ?_; refine ql_v rfl (o_ldP (a := a) (xs := ints (natI zs)) p3 rfl (by repeat (first | exact hr | apply Rs.left)) (natI_at hi)) ?_; refine ql_env (d := 23) (v := .int .i64 ((x : Nat) : Int)) (by show Value.int .i64 ((zs[i] : Nat) : Int) = _; rw [hx1]) ?_; refine ql_v rfl (o_lss rfl rfl) ?_; refine ql_v rfl (o_move (by conv => lhs; whnf)) ?_; refine ql_bool (d := 25) rfl (fun h => ?_) (fun h => ?_)
        · exfalso; first | (simp at h; done) | (simp at h; omega)
        · try simp only [lv1, lv2, lv3, lv4, lv5, lv6, Bool.not_true, Bool.not_false] at h
          refine ql_v rfl (o_move (by conv => lhs; whnf)) ?_; refine ql_v rfl (o_move (by conv => lhs; whnf)) ?_; refine ql_v rfl (o_ixP1 (a := a) (j := i) Tryz.underlying26 sz3 rfl rfl (by omega) (nn_rs (xs := ints (natI zs)) (by repeat (first | exact hr | apply Rs.left)) (by rw [ints_length, natI_len]; omega))) ?_; refine ql_v rfl (o_ldP (a := a) (xs := ints (natI zs)) p3 rfl (by repeat (first | exact hr | apply Rs.left)) (natI_at hi)) ?_; refine ql_env (d := 29) (v := .int .i64 ((x : Nat) : Int)) (by show Value.int .i64 ((zs[i] : Nat) : Int) = _; rw [hx1]) ?_; refine ql_v rfl (o_move (by conv => lhs; whnf)) ?_; refine ql_v rfl (o_nilCheck rfl) ?_; refine ql_v rfl (o_fieldAddr (o := 2) Tryz.underlying237 rfl rfl sz3 rfl) ?_; refine ql_v rfl (o_load p3 rfl (by repeat (first | with_reducible exact has_here | with_reducible exact has_pt | apply has_left)) rfl) ?_; refine ql_v rfl (o_geq rfl rfl) ?_; refine ql_v rfl (o_pick_f rfl (by conv => lhs; whnf)) ?_; refine ql_v rfl (o_move (by conv => lhs; whnf)) ?_; refine ql_bool (d := 36) rfl (fun h => ?_) (fun h => ?_)
          · exfalso; first | (simp at h; done) | (simp at h; omega)
          · try simp only [lv1, lv2, lv3, lv4, lv5, lv6, Bool.not_true, Bool.not_false] at h
            refine ql_v rfl (o_move (by conv => lhs; whnf)) ?_; refine ql_v rfl (o_move (by conv => lhs; whnf)) ?_; refine ql_v rfl (o_move (by conv => lhs; whnf)) ?_; refine ql_v rfl (o_ixP1 (a := a) (j := i) Tryz.underlying26 sz3 rfl rfl (by omega) (nn_rs (xs := ints (natI zs)) (by repeat (first | exact hr | apply Rs.left)) (by rw [ints_length, natI_len]; omega))) ?_; refine ql_v rfl (o_ldP (a := a) (xs := ints (natI zs)) p3 rfl (by repeat (first | exact hr | apply Rs.left)) (natI_at hi)) ?_; refine ql_env (d := 41) (v := .int .i64 ((x : Nat) : Int)) (by show Value.int .i64 ((zs[i] : Nat) : Int) = _; rw [hx1]) ?_; refine ql_v rfl (o_ixP1 (j := x) Tryz.underlying146 sz4 rfl rfl (by omega) (nn_rs (xs := bos (wasL n (zs.take i))) (by repeat (first | with_reducible exact rs_sl | apply Rs.left)) (by rw [bos_length, wasL_len]; omega))) ?_; refine ql_v rfl (o_ldP (xs := bos (wasL n (zs.take i))) p4 rfl (by repeat (first | with_reducible exact rs_sl | apply Rs.left)) (wasL_at hxn)) ?_; refine ql_env (d := 43) (v := .bool false) (congrArg Value.bool (decide_eq_false hxo)) ?_; refine ql_v rfl (o_pick_f rfl (by conv => lhs; whnf)) ?_; refine ql_nil ?_; refine q_then_n ?_; refine tc_cond rfl (fun h => ?_) (fun h => ?_)
            · exfalso; simp at h
            · try simp only [lv1, lv2, lv3, lv4, lv5, lv6, Bool.not_true, Bool.not_false] at h
              refine tc_skip ?_; refine q_then_n ?_; refine tc_reg ?_; refine tlm ?_; refine tlm ?_; refine tlm ?_; refine tv (o_ixP1 (a := a) (j := i) Tryz.underlying26 sz3 rfl rfl (by omega) (nn_rs (xs := ints (natI zs)) (by repeat (first | exact hr | apply Rs.left)) (by rw [ints_length, natI_len]; omega))) ?_; refine tv (o_ldP (a := a) (xs := ints (natI zs)) p3 rfl (by repeat (first | exact hr | apply Rs.left)) (natI_at hi)) ?_; refine tl_env (d := 49) (v := .int .i64 ((x : Nat) : Int)) (by show Value.int .i64 ((zs[i] : Nat) : Int) = _; rw [hx1]) ?_; refine tv (o_ixP1 (j := x) Tryz.underlying146 sz4 rfl rfl (by omega) (nn_rs (xs := bos (wasL n (zs.take i))) (by repeat (first | with_reducible exact rs_sl | apply Rs.left)) (by rw [bos_length, wasL_len]; omega))) ?_; refine tl_u rfl (o_stP (ys := bos (wasL n (zs.take (i + 1)))) sz4 rfl rfl rfl (by repeat (first | with_reducible exact ct_here | apply ct_left)) (by omega) (by rw [htk]; exact wasL_set hxn)) ?_; refine tl_nil ?_; refine q_block_n (q_then_n ?_); refine tc_reg ?_; refine tlm ?_; refine tv (by first | exact o_addI rfl rfl (by omega) | exact o_add rfl rfl) ?_; refine tla ?_; refine nq ?_; exact ⟨_, by omega, i + 1, by omega, rfl, rfl, rfl, rfl, rfl, (by repeat (first | with_reducible exact dr_refl | apply dr_keep | apply dr_drop))⟩
      · obtain rfl : i = m := by first | omega | (simp at h; omega)
        rw [List.take_of_length_le (by omega)]
        refine tc_exit ?_; refine q_then_e (q_then_e (q_block_x (q_then_n ?_))); refine sr ?_; refine tlm ?_; refine tlm ?_; refine tv (o_nilCheck rfl) ?_; refine tv (o_fieldAddr (o := 3) Tryz.underlying237 rfl rfl sz146 rfl) ?_; refine tl_u rfl (o_stU (l' := [.pointer (some ⟨q, 0, none⟩), .int .i64 ((at_ : Nat) : Int), .int .i64 ((n : Nat) : Int), .slice (some ⟨b13, 0, none⟩) n n, .pointer none]) rfl (by repeat (first | with_reducible exact upd_here | with_reducible exact upd_pt | apply upd_left)) sz146 rfl rfl (by show 3 < 5; decide) rfl) ?_; refine nq ?_; refine sr ?_; refine tla ?_; refine nq ?_; refine tc_ret ?_; exact ⟨.int .i64 0, _, res1 rfl rfl, Dr.sat (by repeat (first | with_reducible exact dr_refl | apply dr_keep | apply dr_drop)), b13, rfl, rfl⟩
theorem rState12_c {A R : SP} {C : SP → SP} {r : Nat} {s : DevS} (hc : Ct A (RDev r s) R C := by repeat (first | with_reducible exact ct_here | apply ct_left)) {q lg la lz : Nat} {o : Value} (hq : Has A q (cl [.pointer (some ⟨r, 0, none⟩), .pointer (some ⟨lg, 0, none⟩), o] 235) := by (repeat (first | assumption | with_reducible exact has_here | with_reducible exact has_pt | apply has_left))) (hl : Has R lg (cl [.pointer (some ⟨r, 0, none⟩), .int .i64 ((la : Nat) : Int), .int .i64 ((lz : Nat) : Int)] 233) := by (repeat (first | assumption | with_reducible exact has_here | with_reducible exact has_pt | apply has_left))) (hlw : LogW (s.ls.length * 64) la lz) (hre : recordsS la lz s = ([], 0)) :
    Fn Tryz.prog 118 #[.pointer (some ⟨q, 0, none⟩)] (A) (fun v B => v = .int .i64 0 ∧ A = B) := by
  refine fn_enterW (args := [.pointer (some ⟨q, 0, none⟩)]) Tryz.func118 rfl Tryz.ntmps118 (by simp) ?_; refine sr ?_; refine tla ?_; refine nq ?_; refine sr ?_; refine tlm ?_; refine tv (o_nilCheck rfl) ?_; refine tv (o_fieldAddr (o := 1) Tryz.underlying235 rfl rfl sz152 rfl) ?_; refine tv (o_load p152 rfl hq rfl) ?_; refine tl_c rfl (o_call bd175 rfl (rRecords_c (hc := hc) (hl := hl) (hlw := hlw))) ?_; rintro _ _ ⟨a10, c10, vs10, rfl, hc10, hvs10, rfl⟩
  rw [hre] at hc10 hvs10
  rw [hre]
  refine tlm ?_; refine tv (o_extract rfl rfl) ?_; refine tv (o_extract rfl rfl) ?_; refine tla ?_; refine tla ?_; refine nq ?_; refine tc_seq ?_; refine sr ?_; refine tlm ?_; refine tv (o_nei rfl rfl) ?_; refine nq ?_; refine tc_cond rfl (fun h => ?_) (fun h => ?_)
  · exfalso; simp at h
  · try simp only [lv1, lv2, lv3, lv4, lv5, lv6, Bool.not_true, Bool.not_false] at h
    refine tc_skip ?_; refine q_then_n ?_; refine tc_seq ?_; refine sr ?_; refine tlm ?_; refine tv (o_len Tryz.underlying181 rfl) ?_; refine tv (o_gtr rfl rfl) ?_; refine nq ?_; refine tc_cond rfl (fun h => ?_) (fun h => ?_)
    · exfalso; simp at h
    · try simp only [lv1, lv2, lv3, lv4, lv5, lv6, Bool.not_true, Bool.not_false] at h
      refine tc_skip ?_; refine q_then_n ?_; refine sr ?_; refine tla ?_; refine nq ?_; refine tc_ret ?_; exact ⟨.int .i64 0, _, res1 rfl rfl, (fun g w h => by rw [hc.1]; rw [hc.2] at h; exact Dr.sat (A' := R * RDev r s) (by repeat (first | with_reducible exact dr_refl | apply dr_keep | apply dr_drop)) g w h), rfl, rfl⟩
theorem pt_bos {R : SP} {b n : Nat} {E : TypeId} {g : Gh} {w : World} (h : sat g w (R * pt b (cl (List.replicate n (.bool false)) E))) : sat g w (R * Sl 1 (.slice (some ⟨b, 0, none⟩) n n) n (bos (wasL n []))) :=
  sl_new (k := 1) h (Nat.le_refl _) (by simp) (by rw [Nat.mul_one, List.take_of_length_le (by simp), wasL_nil]; unfold bos; rw [List.map_replicate])
theorem rBegin12_c {A R : SP} {q r lg la lz : Nat} {s : DevS} (hA : A = R * pt q (cl [.pointer (some ⟨r, 0, none⟩), .pointer (some ⟨lg, 0, none⟩), .pointer none] 235) * pt lg (cl [.pointer (some ⟨r, 0, none⟩), .int .i64 ((la : Nat) : Int), .int .i64 ((lz : Nat) : Int)] 233) * RDev r s) (hlw : LogW (s.ls.length * 64) la lz) (hre : recordsS la lz s = ([], 0)) (ho : s.off = false := by assumption) :
    Fn Tryz.prog 116 #[.pointer (some ⟨q, 0, none⟩)] (A) (fun v B => ∃ t, v = .tuple #[.pointer (some ⟨t, 0, none⟩), .int .i64 0] ∧ B = R * pt q (cl [.pointer (some ⟨r, 0, none⟩), .pointer (some ⟨lg, 0, none⟩), .pointer (some ⟨t, 0, none⟩)] 235) * pt lg (cl [.pointer (some ⟨r, 0, none⟩), .int .i64 ((la : Nat) : Int), .int .i64 ((lz : Nat) : Int)] 233) * RDev r s * pt t (cl [.pointer (some ⟨q, 0, none⟩), .slice none 0 0, .bool false] 263)) := by
  refine fn_enterW (args := [.pointer (some ⟨q, 0, none⟩)]) Tryz.func116 rfl Tryz.ntmps116 (by simp) ?_
  subst hA
  refine sr ?_; refine tla ?_; refine tla ?_; refine nq ?_; refine tc_seq ?_; refine sr ?_; refine tlm ?_; refine tv (o_nilCheck rfl) ?_; refine tv (o_fieldAddr (o := 0) Tryz.underlying235 rfl rfl sz48 rfl) ?_; refine tv (o_load p48 rfl (by repeat (first | with_reducible exact has_here | with_reducible exact has_pt | apply has_left)) rfl) ?_; refine tv (o_nilCheck rfl) ?_; refine tv (o_fieldAddr (o := 5) Tryz.underlying195 rfl rfl sz4 rfl) ?_; refine tv (o_loadC p4 rfl (rdev_gone (by repeat (first | with_reducible exact ct_here | apply ct_left)))) ?_; refine tl_env (d := 11) (v := .bool false) (congrArg Value.bool ho) ?_; refine nq ?_; refine tc_cond rfl (fun h => ?_) (fun h => ?_)
  · exfalso; simp at h
  · try simp only [lv1, lv2, lv3, lv4, lv5, lv6, Bool.not_true, Bool.not_false] at h
    refine tc_skip ?_; refine q_then_n ?_; refine tc_seq ?_; refine sr ?_; refine tlm ?_; refine tv (o_nilCheck rfl) ?_; refine tv (o_fieldAddr (o := 2) Tryz.underlying235 rfl rfl sz125 rfl) ?_; refine tv (o_load p125 rfl (by repeat (first | with_reducible exact has_here | with_reducible exact has_pt | apply has_left)) rfl) ?_; refine tv (o_nep Tryz.underlying125 rfl rfl) ?_; refine nq ?_; refine tc_cond rfl (fun h => ?_) (fun h => ?_)
    · exfalso; simp at h
    · try simp only [lv1, lv2, lv3, lv4, lv5, lv6, Bool.not_true, Bool.not_false] at h
      refine tc_skip ?_; refine q_then_n ?_; refine sr ?_; refine tlm ?_; refine tl_c rfl (o_call bd118 rfl (rState12_c (s := s) (la := la) (lz := lz) (r := r) (lg := lg) (hlw := hlw) (hre := hre))) ?_; rintro _ _ ⟨rfl, rfl⟩; refine tla ?_; refine nq ?_; refine tc_seq ?_; refine sr ?_; refine tlm ?_; refine tv (o_nei rfl rfl) ?_; refine nq ?_; refine tc_cond rfl (fun h => ?_) (fun h => ?_)
      · exfalso; simp at h
      · try simp only [lv1, lv2, lv3, lv4, lv5, lv6, Bool.not_true, Bool.not_false] at h
        refine tc_skip ?_; refine q_then_n ?_; refine sr ?_; refine tlm ?_; refine tlm ?_; refine tv (o_bS (l := [_, _, _]) (pv_cons (by conv => lhs; whnf) pv_nil) Tryz.underlying263 z263 (pl263 Tryz.underlying263) rfl) ?_; refine tl_x rfl (o_box rfl rfl) ?_; rintro _ _ ⟨b25, rfl, rfl⟩; refine tv (o_nilCheck rfl) ?_; refine tv (o_fieldAddr (o := 2) Tryz.underlying235 rfl rfl sz125 rfl) ?_; refine tl_u rfl (o_stU (l' := [.pointer (some ⟨r, 0, none⟩), .pointer (some ⟨lg, 0, none⟩), .pointer (some ⟨b25, 0, none⟩)]) rfl (by repeat (first | with_reducible exact upd_here | with_reducible exact upd_pt | apply upd_left)) sz125 rfl rfl (by show 2 < 3; decide) rfl) ?_; refine nq ?_; refine sr ?_; refine tlm ?_; refine tv (o_nilCheck rfl) ?_; refine tv (o_fieldAddr (o := 2) Tryz.underlying235 rfl rfl sz125 rfl) ?_; refine tv (o_load p125 rfl (by repeat (first | with_reducible exact has_here | with_reducible exact has_pt | apply has_left)) rfl) ?_; refine tla ?_; refine tla ?_; refine nq ?_; refine tc_ret ?_; exact ⟨_, _, res2 rfl rfl rfl, fun _ _ h => h, b25, rfl, rfl⟩
theorem rBegin13_c {A R : SP} {hd n at_ q r lg la lz : Nat} {l : Value} {s : DevS} (hA : A = R * pt hd (cl [.pointer (some ⟨q, 0, none⟩), .int .i64 ((at_ : Nat) : Int), .int .i64 ((n : Nat) : Int), l, .pointer none] 237) * pt q (cl [.pointer (some ⟨r, 0, none⟩), .pointer (some ⟨lg, 0, none⟩), .pointer none] 235) * pt lg (cl [.pointer (some ⟨r, 0, none⟩), .int .i64 ((la : Nat) : Int), .int .i64 ((lz : Nat) : Int)] 233) * RDev r s) (hlw : LogW (s.ls.length * 64) la lz) (hre : recordsS la lz s = ([], 0)) (hn : n ≤ 4194304) (ho : s.off = false := by assumption) :
    Fn Tryz.prog 156 #[.pointer (some ⟨hd, 0, none⟩)] (A) (fun v B => ∃ t k1 k2 w, v = .tuple #[.pointer (some ⟨w, 0, none⟩), .int .i64 0] ∧ B = R * pt hd (cl [.pointer (some ⟨q, 0, none⟩), .int .i64 ((at_ : Nat) : Int), .int .i64 ((n : Nat) : Int), l, .pointer (some ⟨w, 0, none⟩)] 237) * pt q (cl [.pointer (some ⟨r, 0, none⟩), .pointer (some ⟨lg, 0, none⟩), .pointer (some ⟨t, 0, none⟩)] 235) * pt lg (cl [.pointer (some ⟨r, 0, none⟩), .int .i64 ((la : Nat) : Int), .int .i64 ((lz : Nat) : Int)] 233) * RDev r s * pt t (cl [.pointer (some ⟨q, 0, none⟩), .slice none 0 0, .bool false] 263) * pt w (cl [.pointer (some ⟨hd, 0, none⟩), .pointer (some ⟨t, 0, none⟩), .slice (some ⟨k1, 0, none⟩) n n, .slice (some ⟨k2, 0, none⟩) n n, .bool false] 271) * Sl 1 (.slice (some ⟨k1, 0, none⟩) n n) n (bos (wasL n [])) * Sl 1 (.slice (some ⟨k2, 0, none⟩) n n) n (bos (wasL n []))) := by
  refine fn_enterW (args := [.pointer (some ⟨hd, 0, none⟩)]) Tryz.func156 rfl Tryz.ntmps156 (by simp) ?_
  subst hA
  refine sr ?_; refine tla ?_; refine tla ?_; refine nq ?_; refine sr ?_; refine tlm ?_; refine tv (o_nilCheck rfl) ?_; refine tv (o_fieldAddr (o := 0) Tryz.underlying237 rfl rfl sz124 rfl) ?_; refine tv (o_load p124 rfl (by repeat (first | with_reducible exact has_here | with_reducible exact has_pt | apply has_left)) rfl) ?_; refine tl_c rfl (o_call bd116 rfl (rBegin12_c (R := R * pt hd (cl [.pointer (some ⟨q, 0, none⟩), .int .i64 ((at_ : Nat) : Int), .int .i64 ((n : Nat) : Int), l, .pointer none] 237)) (q := q) (r := r) (lg := lg) (la := la) (lz := lz) (s := s) (hA := by ac_rfl) (hlw := hlw) (hre := hre))) ?_; rintro _ _ ⟨t11, rfl, rfl⟩; refine tlm ?_; refine tv (o_extract rfl rfl) ?_; refine tv (o_extract rfl rfl) ?_; refine tla ?_; refine tla ?_; refine nq ?_; refine tc_seq ?_; refine sr ?_; refine tlm ?_; refine tv (o_nei rfl rfl) ?_; refine nq ?_; refine tc_cond rfl (fun h => ?_) (fun h => ?_)
  · exfalso; simp at h
  · try simp only [lv1, lv2, lv3, lv4, lv5, lv6, Bool.not_true, Bool.not_false] at h
    refine tc_skip ?_; refine q_then_n ?_; refine tc_seq ?_; refine tc_regh (S := R) mo (by repeat (first | with_reducible exact dr_refl | apply dr_keep | apply dr_drop)) ?_
    show TH _ _ _ _ _ 18 #[ff,ff,ff,ff,ff,ff,ff,ff,ff,ff,ff,ff,ff,ff,ff,ff,ff,ff] _ _
    refine th_take (i := 0) (listed' := #[tt,ff,ff,ff,ff,ff,ff,ff,ff,ff,ff,ff,ff,ff,ff,ff,ff,ff]) rfl (by kernel_rfl) (by kernel_rfl) (by kernel_rfl) rfl rfl (o_move (by conv => lhs; whnf)) ?_; refine th_take (i := 1) (listed' := #[tt,tt,ff,ff,ff,ff,ff,ff,ff,ff,ff,ff,ff,ff,ff,ff,ff,ff]) rfl (by kernel_rfl) (by kernel_rfl) (by kernel_rfl) rfl rfl (o_move (by conv => lhs; whnf)) ?_; refine th_take (i := 2) (listed' := #[tt,tt,tt,ff,ff,ff,ff,ff,ff,ff,ff,ff,ff,ff,ff,ff,ff,ff]) rfl (by kernel_rfl) (by kernel_rfl) (by kernel_rfl) rfl rfl (o_move (by conv => lhs; whnf)) ?_; refine th_take (i := 3) (listed' := #[tt,tt,tt,tt,ff,ff,ff,ff,ff,ff,ff,ff,ff,ff,ff,ff,ff,ff]) rfl (by kernel_rfl) (by kernel_rfl) (by kernel_rfl) rfl rfl (o_move (by conv => lhs; whnf)) ?_; refine th_take (i := 4) (listed' := #[tt,tt,tt,tt,tt,ff,ff,ff,ff,ff,ff,ff,ff,ff,ff,ff,ff,ff]) rfl (by kernel_rfl) (by kernel_rfl) (by kernel_rfl) rfl rfl (o_nilCheck rfl) ?_; refine th_take (i := 5) (listed' := #[tt,tt,tt,tt,tt,tt,ff,ff,ff,ff,ff,ff,ff,ff,ff,ff,ff,ff]) rfl (by kernel_rfl) (by kernel_rfl) (by kernel_rfl) rfl rfl (o_fieldAddr (o := 2) Tryz.underlying237 rfl rfl sz3 rfl) ?_; refine th_take (i := 8) (listed' := #[tt,tt,tt,tt,tt,tt,ff,ff,tt,ff,ff,ff,ff,ff,ff,ff,ff,ff]) rfl (by kernel_rfl) (by kernel_rfl) (by kernel_rfl) rfl rfl (o_move (by conv => lhs; whnf)) ?_; refine th_take (i := 9) (listed' := #[tt,tt,tt,tt,tt,tt,ff,ff,tt,tt,ff,ff,ff,ff,ff,ff,ff,ff]) rfl (by kernel_rfl) (by kernel_rfl) (by kernel_rfl) rfl rfl (o_nilCheck rfl) ?_
    refine th_take (i := 10) (listed' := #[tt,tt,tt,tt,tt,tt,ff,ff,tt,tt,tt,ff,ff,ff,ff,ff,ff,ff]) rfl (by kernel_rfl) (by kernel_rfl) (by kernel_rfl) rfl rfl (o_fieldAddr (o := 2) Tryz.underlying237 rfl rfl sz3 rfl) ?_; refine th_two (i := 6) (j := 11) (by kernel_rfl) ?_ ?_
    · skip
      refine oh_v (i := 6) (listed' := #[tt,tt,tt,tt,tt,tt,tt,ff,tt,tt,tt,ff,ff,ff,ff,ff,ff,ff]) rfl rfl rfl (o_load p3 rfl (by repeat (first | with_reducible exact has_here | with_reducible exact has_pt | apply has_left)) rfl) ?_; refine th_two (i := 7) (j := 11) (by kernel_rfl) ?_ ?_
      · skip
        refine oh_x (i := 7) (listed' := #[tt,tt,tt,tt,tt,tt,tt,tt,tt,tt,tt,ff,ff,ff,ff,ff,ff,ff]) rfl rfl rfl (o_makeSlice (len := n) (cap := n) Tryz.underlying146 sz4 by4 z4 rfl rfl rfl (by omega) (by omega) (by omega)) ?_; rintro _ _ ⟨b24, rfl, rfl⟩; refine ⟨by repeat (first | with_reducible exact dr_refl | apply dr_keep | apply dr_drop), ?_⟩; refine th_one (i := 11) (by kernel_rfl) ?_; refine oh_v (i := 11) (listed' := #[tt,tt,tt,tt,tt,tt,tt,tt,tt,tt,tt,tt,ff,ff,ff,ff,ff,ff]) rfl rfl rfl (o_load p3 rfl (by repeat (first | with_reducible exact has_here | with_reducible exact has_pt | apply has_left)) rfl) ?_; refine th_one (i := 12) (by kernel_rfl) ?_; refine oh_x (i := 12) (listed' := #[tt,tt,tt,tt,tt,tt,tt,tt,tt,tt,tt,tt,tt,ff,ff,ff,ff,ff]) rfl rfl rfl (o_makeSlice (len := n) (cap := n) Tryz.underlying146 sz4 by4 z4 rfl rfl rfl (by omega) (by omega) (by omega)) ?_; rintro _ _ ⟨b29, rfl, rfl⟩; refine ⟨by repeat (first | with_reducible exact dr_refl | apply dr_keep | apply dr_drop), ?_⟩; refine th_take (i := 13) (listed' := #[tt,tt,tt,tt,tt,tt,tt,tt,tt,tt,tt,tt,tt,tt,ff,ff,ff,ff]) rfl (by kernel_rfl) (by kernel_rfl) (by kernel_rfl) rfl rfl (o_bS (l := [_, _, _, _, _]) (pv_cons (by conv => lhs; whnf) (pv_cons (by conv => lhs; whnf) (pv_cons (by conv => lhs; whnf) (pv_cons (by conv => lhs; whnf) pv_nil)))) Tryz.underlying271 z271 (pl271 Tryz.underlying271) rfl) ?_; refine th_one (i := 14) (by kernel_rfl) ?_; refine oh_x (i := 14) (listed' := #[tt,tt,tt,tt,tt,tt,tt,tt,tt,tt,tt,tt,tt,tt,tt,ff,ff,ff]) rfl rfl rfl (o_box rfl rfl) ?_
        rintro _ _ ⟨b31, rfl, rfl⟩; refine ⟨by repeat (first | with_reducible exact dr_refl | apply dr_keep | apply dr_drop), ?_⟩; refine th_take (i := 15) (listed' := #[tt,tt,tt,tt,tt,tt,tt,tt,tt,tt,tt,tt,tt,tt,tt,tt,ff,ff]) rfl (by kernel_rfl) (by kernel_rfl) (by kernel_rfl) rfl rfl (o_nilCheck rfl) ?_; refine th_take (i := 16) (listed' := #[tt,tt,tt,tt,tt,tt,tt,tt,tt,tt,tt,tt,tt,tt,tt,tt,tt,ff]) rfl (by kernel_rfl) (by kernel_rfl) (by kernel_rfl) rfl rfl (o_fieldAddr (o := 4) Tryz.underlying237 rfl rfl sz50 rfl) ?_; refine th_one (i := 17) (by kernel_rfl) ?_; refine oh_u (i := 17) (listed' := #[tt,tt,tt,tt,tt,tt,tt,tt,tt,tt,tt,tt,tt,tt,tt,tt,tt,tt]) rfl rfl rfl (o_stU (l' := [.pointer (some ⟨q, 0, none⟩), .int .i64 ((at_ : Nat) : Int), .int .i64 ((n : Nat) : Int), l, .pointer (some ⟨b31, 0, none⟩)]) rfl (by repeat (first | with_reducible exact upd_here | with_reducible exact upd_pt | apply upd_left)) sz50 rfl rfl (by show 4 < 5; decide) rfl) (by repeat (first | with_reducible exact dr_refl | apply dr_keep | apply dr_drop)) ?_; refine th_done (by kernel_rfl) ?_; refine q_then_n ?_; refine sr ?_; refine tlm ?_; refine tv (o_nilCheck rfl) ?_; refine tv (o_fieldAddr (o := 4) Tryz.underlying237 rfl rfl sz50 rfl) ?_; refine tv (o_load p50 rfl (by repeat (first | with_reducible exact has_here | with_reducible exact has_pt | apply has_left)) rfl) ?_; refine tla ?_
        refine tla ?_; refine nq ?_; refine tc_ret ?_; exact ⟨_, _, res2 rfl rfl rfl, (fun g w h => pt_bos (b := b29) ((pt_bos (b := b24) (h.perm (show _ = R * pt hd (cl [.pointer (some ⟨q, 0, none⟩), .int .i64 ((at_ : Nat) : Int), .int .i64 ((n : Nat) : Int), l, .pointer (some ⟨b31, 0, none⟩)] 237) * pt q (cl [.pointer (some ⟨r, 0, none⟩), .pointer (some ⟨lg, 0, none⟩), .pointer (some ⟨t11, 0, none⟩)] 235) * pt lg (cl [.pointer (some ⟨r, 0, none⟩), .int .i64 ((la : Nat) : Int), .int .i64 ((lz : Nat) : Int)] 233) * RDev r s * pt t11 (cl [.pointer (some ⟨q, 0, none⟩), .slice none 0 0, .bool false] 263) * pt b31 (cl [.pointer (some ⟨hd, 0, none⟩), .pointer (some ⟨t11, 0, none⟩), .slice (some ⟨b24, 0, none⟩) n n, .slice (some ⟨b29, 0, none⟩) n n, .bool false] 271) * pt b29 (cl (List.replicate n (.bool false)) 4) * pt b24 (cl (List.replicate n (.bool false)) 4) by ac_rfl))).perm (show _ = R * pt hd (cl [.pointer (some ⟨q, 0, none⟩), .int .i64 ((at_ : Nat) : Int), .int .i64 ((n : Nat) : Int), l, .pointer (some ⟨b31, 0, none⟩)] 237) * pt q (cl [.pointer (some ⟨r, 0, none⟩), .pointer (some ⟨lg, 0, none⟩), .pointer (some ⟨t11, 0, none⟩)] 235) * pt lg (cl [.pointer (some ⟨r, 0, none⟩), .int .i64 ((la : Nat) : Int), .int .i64 ((lz : Nat) : Int)] 233) * RDev r s * pt t11 (cl [.pointer (some ⟨q, 0, none⟩), .slice none 0 0, .bool false] 263) * pt b31 (cl [.pointer (some ⟨hd, 0, none⟩), .pointer (some ⟨t11, 0, none⟩), .slice (some ⟨b24, 0, none⟩) n n, .slice (some ⟨b29, 0, none⟩) n n, .bool false] 271) * Sl 1 (.slice (some ⟨b24, 0, none⟩) n n) n (bos (wasL n [])) * pt b29 (cl (List.replicate n (.bool false)) 4) by ac_rfl))), t11, b24, b29, b31, rfl, rfl⟩
      · skip
        refine oh_v (i := 11) (listed' := #[tt,tt,tt,tt,tt,tt,tt,ff,tt,tt,tt,tt,ff,ff,ff,ff,ff,ff]) rfl rfl rfl (o_load p3 rfl (by repeat (first | with_reducible exact has_here | with_reducible exact has_pt | apply has_left)) rfl) ?_; refine th_two (i := 7) (j := 12) (by kernel_rfl) ?_ ?_
        · skip
          refine oh_x (i := 7) (listed' := #[tt,tt,tt,tt,tt,tt,tt,tt,tt,tt,tt,tt,ff,ff,ff,ff,ff,ff]) rfl rfl rfl (o_makeSlice (len := n) (cap := n) Tryz.underlying146 sz4 by4 z4 rfl rfl rfl (by omega) (by omega) (by omega)) ?_; rintro _ _ ⟨b24, rfl, rfl⟩; refine ⟨by repeat (first | with_reducible exact dr_refl | apply dr_keep | apply dr_drop), ?_⟩; refine th_one (i := 12) (by kernel_rfl) ?_; refine oh_x (i := 12) (listed' := #[tt,tt,tt,tt,tt,tt,tt,tt,tt,tt,tt,tt,tt,ff,ff,ff,ff,ff]) rfl rfl rfl (o_makeSlice (len := n) (cap := n) Tryz.underlying146 sz4 by4 z4 rfl rfl rfl (by omega) (by omega) (by omega)) ?_; rintro _ _ ⟨b29, rfl, rfl⟩; refine ⟨by repeat (first | with_reducible exact dr_refl | apply dr_keep | apply dr_drop), ?_⟩; refine th_take (i := 13) (listed' := #[tt,tt,tt,tt,tt,tt,tt,tt,tt,tt,tt,tt,tt,tt,ff,ff,ff,ff]) rfl (by kernel_rfl) (by kernel_rfl) (by kernel_rfl) rfl rfl (o_bS (l := [_, _, _, _, _]) (pv_cons (by conv => lhs; whnf) (pv_cons (by conv => lhs; whnf) (pv_cons (by conv => lhs; whnf) (pv_cons (by conv => lhs; whnf) pv_nil)))) Tryz.underlying271 z271 (pl271 Tryz.underlying271) rfl) ?_; refine th_one (i := 14) (by kernel_rfl) ?_; refine oh_x (i := 14) (listed' := #[tt,tt,tt,tt,tt,tt,tt,tt,tt,tt,tt,tt,tt,tt,tt,ff,ff,ff]) rfl rfl rfl (o_box rfl rfl) ?_; rintro _ _ ⟨b31, rfl, rfl⟩; refine ⟨by repeat (first | with_reducible exact dr_refl | apply dr_keep | apply dr_drop), ?_⟩; refine th_take (i := 15) (listed' := #[tt,tt,tt,tt,tt,tt,tt,tt,tt,tt,tt,tt,tt,tt,tt,tt,ff,ff]) rfl (by kernel_rfl) (by kernel_rfl) (by kernel_rfl) rfl rfl (o_nilCheck rfl) ?_
          refine th_take (i := 16) (listed' := #[tt,tt,tt,tt,tt,tt,tt,tt,tt,tt,tt,tt,tt,tt,tt,tt,tt,ff]) rfl (by kernel_rfl) (by kernel_rfl) (by kernel_rfl) rfl rfl (o_fieldAddr (o := 4) Tryz.underlying237 rfl rfl sz50 rfl) ?_; refine th_one (i := 17) (by kernel_rfl) ?_; refine oh_u (i := 17) (listed' := #[tt,tt,tt,tt,tt,tt,tt,tt,tt,tt,tt,tt,tt,tt,tt,tt,tt,tt]) rfl rfl rfl (o_stU (l' := [.pointer (some ⟨q, 0, none⟩), .int .i64 ((at_ : Nat) : Int), .int .i64 ((n : Nat) : Int), l, .pointer (some ⟨b31, 0, none⟩)]) rfl (by repeat (first | with_reducible exact upd_here | with_reducible exact upd_pt | apply upd_left)) sz50 rfl rfl (by show 4 < 5; decide) rfl) (by repeat (first | with_reducible exact dr_refl | apply dr_keep | apply dr_drop)) ?_; refine th_done (by kernel_rfl) ?_; refine q_then_n ?_; refine sr ?_; refine tlm ?_; refine tv (o_nilCheck rfl) ?_; refine tv (o_fieldAddr (o := 4) Tryz.underlying237 rfl rfl sz50 rfl) ?_; refine tv (o_load p50 rfl (by repeat (first | with_reducible exact has_here | with_reducible exact has_pt | apply has_left)) rfl) ?_; refine tla ?_; refine tla ?_; refine nq ?_; refine tc_ret ?_; exact ⟨_, _, res2 rfl rfl rfl, (fun g w h => pt_bos (b := b29) ((pt_bos (b := b24) (h.perm (show _ = R * pt hd (cl [.pointer (some ⟨q, 0, none⟩), .int .i64 ((at_ : Nat) : Int), .int .i64 ((n : Nat) : Int), l, .pointer (some ⟨b31, 0, none⟩)] 237) * pt q (cl [.pointer (some ⟨r, 0, none⟩), .pointer (some ⟨lg, 0, none⟩), .pointer (some ⟨t11, 0, none⟩)] 235) * pt lg (cl [.pointer (some ⟨r, 0, none⟩), .int .i64 ((la : Nat) : Int), .int .i64 ((lz : Nat) : Int)] 233) * RDev r s * pt t11 (cl [.pointer (some ⟨q, 0, none⟩), .slice none 0 0, .bool false] 263) * pt b31 (cl [.pointer (some ⟨hd, 0, none⟩), .pointer (some ⟨t11, 0, none⟩), .slice (some ⟨b24, 0, none⟩) n n, .slice (some ⟨b29, 0, none⟩) n n, .bool false] 271) * pt b29 (cl (List.replicate n (.bool false)) 4) * pt b24 (cl (List.replicate n (.bool false)) 4) by ac_rfl))).perm (show _ = R * pt hd (cl [.pointer (some ⟨q, 0, none⟩), .int .i64 ((at_ : Nat) : Int), .int .i64 ((n : Nat) : Int), l, .pointer (some ⟨b31, 0, none⟩)] 237) * pt q (cl [.pointer (some ⟨r, 0, none⟩), .pointer (some ⟨lg, 0, none⟩), .pointer (some ⟨t11, 0, none⟩)] 235) * pt lg (cl [.pointer (some ⟨r, 0, none⟩), .int .i64 ((la : Nat) : Int), .int .i64 ((lz : Nat) : Int)] 233) * RDev r s * pt t11 (cl [.pointer (some ⟨q, 0, none⟩), .slice none 0 0, .bool false] 263) * pt b31 (cl [.pointer (some ⟨hd, 0, none⟩), .pointer (some ⟨t11, 0, none⟩), .slice (some ⟨b24, 0, none⟩) n n, .slice (some ⟨b29, 0, none⟩) n n, .bool false] 271) * Sl 1 (.slice (some ⟨b24, 0, none⟩) n n) n (bos (wasL n [])) * pt b29 (cl (List.replicate n (.bool false)) 4) by ac_rfl))), t11, b24, b29, b31, rfl, rfl⟩
        · skip
          refine oh_x (i := 12) (listed' := #[tt,tt,tt,tt,tt,tt,tt,ff,tt,tt,tt,tt,tt,ff,ff,ff,ff,ff]) rfl rfl rfl (o_makeSlice (len := n) (cap := n) Tryz.underlying146 sz4 by4 z4 rfl rfl rfl (by omega) (by omega) (by omega)) ?_; rintro _ _ ⟨b29, rfl, rfl⟩; refine ⟨by repeat (first | with_reducible exact dr_refl | apply dr_keep | apply dr_drop), ?_⟩; refine th_one (i := 7) (by kernel_rfl) ?_; refine oh_x (i := 7) (listed' := #[tt,tt,tt,tt,tt,tt,tt,tt,tt,tt,tt,tt,tt,ff,ff,ff,ff,ff]) rfl rfl rfl (o_makeSlice (len := n) (cap := n) Tryz.underlying146 sz4 by4 z4 rfl rfl rfl (by omega) (by omega) (by omega)) ?_; rintro _ _ ⟨b24, rfl, rfl⟩; refine ⟨by repeat (first | with_reducible exact dr_refl | apply dr_keep | apply dr_drop), ?_⟩; refine th_take (i := 13) (listed' := #[tt,tt,tt,tt,tt,tt,tt,tt,tt,tt,tt,tt,tt,tt,ff,ff,ff,ff]) rfl (by kernel_rfl) (by kernel_rfl) (by kernel_rfl) rfl rfl (o_bS (l := [_, _, _, _, _]) (pv_cons (by conv => lhs; whnf) (pv_cons (by conv => lhs; whnf) (pv_cons (by conv => lhs; whnf) (pv_cons (by conv => lhs; whnf) pv_nil)))) Tryz.underlying271 z271 (pl271 Tryz.underlying271) rfl) ?_; refine th_one (i := 14) (by kernel_rfl) ?_; refine oh_x (i := 14) (listed' := #[tt,tt,tt,tt,tt,tt,tt,tt,tt,tt,tt,tt,tt,tt,tt,ff,ff,ff]) rfl rfl rfl (o_box rfl rfl) ?_; rintro _ _ ⟨b31, rfl, rfl⟩; refine ⟨by repeat (first | with_reducible exact dr_refl | apply dr_keep | apply dr_drop), ?_⟩; refine th_take (i := 15) (listed' := #[tt,tt,tt,tt,tt,tt,tt,tt,tt,tt,tt,tt,tt,tt,tt,tt,ff,ff]) rfl (by kernel_rfl) (by kernel_rfl) (by kernel_rfl) rfl rfl (o_nilCheck rfl) ?_
          refine th_take (i := 16) (listed' := #[tt,tt,tt,tt,tt,tt,tt,tt,tt,tt,tt,tt,tt,tt,tt,tt,tt,ff]) rfl (by kernel_rfl) (by kernel_rfl) (by kernel_rfl) rfl rfl (o_fieldAddr (o := 4) Tryz.underlying237 rfl rfl sz50 rfl) ?_; refine th_one (i := 17) (by kernel_rfl) ?_; refine oh_u (i := 17) (listed' := #[tt,tt,tt,tt,tt,tt,tt,tt,tt,tt,tt,tt,tt,tt,tt,tt,tt,tt]) rfl rfl rfl (o_stU (l' := [.pointer (some ⟨q, 0, none⟩), .int .i64 ((at_ : Nat) : Int), .int .i64 ((n : Nat) : Int), l, .pointer (some ⟨b31, 0, none⟩)]) rfl (by repeat (first | with_reducible exact upd_here | with_reducible exact upd_pt | apply upd_left)) sz50 rfl rfl (by show 4 < 5; decide) rfl) (by repeat (first | with_reducible exact dr_refl | apply dr_keep | apply dr_drop)) ?_; refine th_done (by kernel_rfl) ?_; refine q_then_n ?_; refine sr ?_; refine tlm ?_; refine tv (o_nilCheck rfl) ?_; refine tv (o_fieldAddr (o := 4) Tryz.underlying237 rfl rfl sz50 rfl) ?_; refine tv (o_load p50 rfl (by repeat (first | with_reducible exact has_here | with_reducible exact has_pt | apply has_left)) rfl) ?_; refine tla ?_; refine tla ?_; refine nq ?_; refine tc_ret ?_; exact ⟨_, _, res2 rfl rfl rfl, (fun g w h => pt_bos (b := b29) ((pt_bos (b := b24) (h.perm (show _ = R * pt hd (cl [.pointer (some ⟨q, 0, none⟩), .int .i64 ((at_ : Nat) : Int), .int .i64 ((n : Nat) : Int), l, .pointer (some ⟨b31, 0, none⟩)] 237) * pt q (cl [.pointer (some ⟨r, 0, none⟩), .pointer (some ⟨lg, 0, none⟩), .pointer (some ⟨t11, 0, none⟩)] 235) * pt lg (cl [.pointer (some ⟨r, 0, none⟩), .int .i64 ((la : Nat) : Int), .int .i64 ((lz : Nat) : Int)] 233) * RDev r s * pt t11 (cl [.pointer (some ⟨q, 0, none⟩), .slice none 0 0, .bool false] 263) * pt b31 (cl [.pointer (some ⟨hd, 0, none⟩), .pointer (some ⟨t11, 0, none⟩), .slice (some ⟨b24, 0, none⟩) n n, .slice (some ⟨b29, 0, none⟩) n n, .bool false] 271) * pt b29 (cl (List.replicate n (.bool false)) 4) * pt b24 (cl (List.replicate n (.bool false)) 4) by ac_rfl))).perm (show _ = R * pt hd (cl [.pointer (some ⟨q, 0, none⟩), .int .i64 ((at_ : Nat) : Int), .int .i64 ((n : Nat) : Int), l, .pointer (some ⟨b31, 0, none⟩)] 237) * pt q (cl [.pointer (some ⟨r, 0, none⟩), .pointer (some ⟨lg, 0, none⟩), .pointer (some ⟨t11, 0, none⟩)] 235) * pt lg (cl [.pointer (some ⟨r, 0, none⟩), .int .i64 ((la : Nat) : Int), .int .i64 ((lz : Nat) : Int)] 233) * RDev r s * pt t11 (cl [.pointer (some ⟨q, 0, none⟩), .slice none 0 0, .bool false] 263) * pt b31 (cl [.pointer (some ⟨hd, 0, none⟩), .pointer (some ⟨t11, 0, none⟩), .slice (some ⟨b24, 0, none⟩) n n, .slice (some ⟨b29, 0, none⟩) n n, .bool false] 271) * Sl 1 (.slice (some ⟨b24, 0, none⟩) n n) n (bos (wasL n [])) * pt b29 (cl (List.replicate n (.bool false)) 4) by ac_rfl))), t11, b24, b29, b31, rfl, rfl⟩
    · skip
      refine oh_v (i := 11) (listed' := #[tt,tt,tt,tt,tt,tt,ff,ff,tt,tt,tt,tt,ff,ff,ff,ff,ff,ff]) rfl rfl rfl (o_load p3 rfl (by repeat (first | with_reducible exact has_here | with_reducible exact has_pt | apply has_left)) rfl) ?_; refine th_two (i := 6) (j := 12) (by kernel_rfl) ?_ ?_
      · skip
        refine oh_v (i := 6) (listed' := #[tt,tt,tt,tt,tt,tt,tt,ff,tt,tt,tt,tt,ff,ff,ff,ff,ff,ff]) rfl rfl rfl (o_load p3 rfl (by repeat (first | with_reducible exact has_here | with_reducible exact has_pt | apply has_left)) rfl) ?_; refine th_two (i := 7) (j := 12) (by kernel_rfl) ?_ ?_
        · skip
          refine oh_x (i := 7) (listed' := #[tt,tt,tt,tt,tt,tt,tt,tt,tt,tt,tt,tt,ff,ff,ff,ff,ff,ff]) rfl rfl rfl (o_makeSlice (len := n) (cap := n) Tryz.underlying146 sz4 by4 z4 rfl rfl rfl (by omega) (by omega) (by omega)) ?_; rintro _ _ ⟨b24, rfl, rfl⟩; refine ⟨by repeat (first | with_reducible exact dr_refl | apply dr_keep | apply dr_drop), ?_⟩; refine th_one (i := 12) (by kernel_rfl) ?_; refine oh_x (i := 12) (listed' := #[tt,tt,tt,tt,tt,tt,tt,tt,tt,tt,tt,tt,tt,ff,ff,ff,ff,ff]) rfl rfl rfl (o_makeSlice (len := n) (cap := n) Tryz.underlying146 sz4 by4 z4 rfl rfl rfl (by omega) (by omega) (by omega)) ?_; rintro _ _ ⟨b29, rfl, rfl⟩; refine ⟨by repeat (first | with_reducible exact dr_refl | apply dr_keep | apply dr_drop), ?_⟩; refine th_take (i := 13) (listed' := #[tt,tt,tt,tt,tt,tt,tt,tt,tt,tt,tt,tt,tt,tt,ff,ff,ff,ff]) rfl (by kernel_rfl) (by kernel_rfl) (by kernel_rfl) rfl rfl (o_bS (l := [_, _, _, _, _]) (pv_cons (by conv => lhs; whnf) (pv_cons (by conv => lhs; whnf) (pv_cons (by conv => lhs; whnf) (pv_cons (by conv => lhs; whnf) pv_nil)))) Tryz.underlying271 z271 (pl271 Tryz.underlying271) rfl) ?_; refine th_one (i := 14) (by kernel_rfl) ?_; refine oh_x (i := 14) (listed' := #[tt,tt,tt,tt,tt,tt,tt,tt,tt,tt,tt,tt,tt,tt,tt,ff,ff,ff]) rfl rfl rfl (o_box rfl rfl) ?_; rintro _ _ ⟨b31, rfl, rfl⟩; refine ⟨by repeat (first | with_reducible exact dr_refl | apply dr_keep | apply dr_drop), ?_⟩; refine th_take (i := 15) (listed' := #[tt,tt,tt,tt,tt,tt,tt,tt,tt,tt,tt,tt,tt,tt,tt,tt,ff,ff]) rfl (by kernel_rfl) (by kernel_rfl) (by kernel_rfl) rfl rfl (o_nilCheck rfl) ?_
          refine th_take (i := 16) (listed' := #[tt,tt,tt,tt,tt,tt,tt,tt,tt,tt,tt,tt,tt,tt,tt,tt,tt,ff]) rfl (by kernel_rfl) (by kernel_rfl) (by kernel_rfl) rfl rfl (o_fieldAddr (o := 4) Tryz.underlying237 rfl rfl sz50 rfl) ?_; refine th_one (i := 17) (by kernel_rfl) ?_; refine oh_u (i := 17) (listed' := #[tt,tt,tt,tt,tt,tt,tt,tt,tt,tt,tt,tt,tt,tt,tt,tt,tt,tt]) rfl rfl rfl (o_stU (l' := [.pointer (some ⟨q, 0, none⟩), .int .i64 ((at_ : Nat) : Int), .int .i64 ((n : Nat) : Int), l, .pointer (some ⟨b31, 0, none⟩)]) rfl (by repeat (first | with_reducible exact upd_here | with_reducible exact upd_pt | apply upd_left)) sz50 rfl rfl (by show 4 < 5; decide) rfl) (by repeat (first | with_reducible exact dr_refl | apply dr_keep | apply dr_drop)) ?_; refine th_done (by kernel_rfl) ?_; refine q_then_n ?_; refine sr ?_; refine tlm ?_; refine tv (o_nilCheck rfl) ?_; refine tv (o_fieldAddr (o := 4) Tryz.underlying237 rfl rfl sz50 rfl) ?_; refine tv (o_load p50 rfl (by repeat (first | with_reducible exact has_here | with_reducible exact has_pt | apply has_left)) rfl) ?_; refine tla ?_; refine tla ?_; refine nq ?_; refine tc_ret ?_; exact ⟨_, _, res2 rfl rfl rfl, (fun g w h => pt_bos (b := b29) ((pt_bos (b := b24) (h.perm (show _ = R * pt hd (cl [.pointer (some ⟨q, 0, none⟩), .int .i64 ((at_ : Nat) : Int), .int .i64 ((n : Nat) : Int), l, .pointer (some ⟨b31, 0, none⟩)] 237) * pt q (cl [.pointer (some ⟨r, 0, none⟩), .pointer (some ⟨lg, 0, none⟩), .pointer (some ⟨t11, 0, none⟩)] 235) * pt lg (cl [.pointer (some ⟨r, 0, none⟩), .int .i64 ((la : Nat) : Int), .int .i64 ((lz : Nat) : Int)] 233) * RDev r s * pt t11 (cl [.pointer (some ⟨q, 0, none⟩), .slice none 0 0, .bool false] 263) * pt b31 (cl [.pointer (some ⟨hd, 0, none⟩), .pointer (some ⟨t11, 0, none⟩), .slice (some ⟨b24, 0, none⟩) n n, .slice (some ⟨b29, 0, none⟩) n n, .bool false] 271) * pt b29 (cl (List.replicate n (.bool false)) 4) * pt b24 (cl (List.replicate n (.bool false)) 4) by ac_rfl))).perm (show _ = R * pt hd (cl [.pointer (some ⟨q, 0, none⟩), .int .i64 ((at_ : Nat) : Int), .int .i64 ((n : Nat) : Int), l, .pointer (some ⟨b31, 0, none⟩)] 237) * pt q (cl [.pointer (some ⟨r, 0, none⟩), .pointer (some ⟨lg, 0, none⟩), .pointer (some ⟨t11, 0, none⟩)] 235) * pt lg (cl [.pointer (some ⟨r, 0, none⟩), .int .i64 ((la : Nat) : Int), .int .i64 ((lz : Nat) : Int)] 233) * RDev r s * pt t11 (cl [.pointer (some ⟨q, 0, none⟩), .slice none 0 0, .bool false] 263) * pt b31 (cl [.pointer (some ⟨hd, 0, none⟩), .pointer (some ⟨t11, 0, none⟩), .slice (some ⟨b24, 0, none⟩) n n, .slice (some ⟨b29, 0, none⟩) n n, .bool false] 271) * Sl 1 (.slice (some ⟨b24, 0, none⟩) n n) n (bos (wasL n [])) * pt b29 (cl (List.replicate n (.bool false)) 4) by ac_rfl))), t11, b24, b29, b31, rfl, rfl⟩
        · skip
          refine oh_x (i := 12) (listed' := #[tt,tt,tt,tt,tt,tt,tt,ff,tt,tt,tt,tt,tt,ff,ff,ff,ff,ff]) rfl rfl rfl (o_makeSlice (len := n) (cap := n) Tryz.underlying146 sz4 by4 z4 rfl rfl rfl (by omega) (by omega) (by omega)) ?_; rintro _ _ ⟨b29, rfl, rfl⟩; refine ⟨by repeat (first | with_reducible exact dr_refl | apply dr_keep | apply dr_drop), ?_⟩; refine th_one (i := 7) (by kernel_rfl) ?_; refine oh_x (i := 7) (listed' := #[tt,tt,tt,tt,tt,tt,tt,tt,tt,tt,tt,tt,tt,ff,ff,ff,ff,ff]) rfl rfl rfl (o_makeSlice (len := n) (cap := n) Tryz.underlying146 sz4 by4 z4 rfl rfl rfl (by omega) (by omega) (by omega)) ?_; rintro _ _ ⟨b24, rfl, rfl⟩; refine ⟨by repeat (first | with_reducible exact dr_refl | apply dr_keep | apply dr_drop), ?_⟩; refine th_take (i := 13) (listed' := #[tt,tt,tt,tt,tt,tt,tt,tt,tt,tt,tt,tt,tt,tt,ff,ff,ff,ff]) rfl (by kernel_rfl) (by kernel_rfl) (by kernel_rfl) rfl rfl (o_bS (l := [_, _, _, _, _]) (pv_cons (by conv => lhs; whnf) (pv_cons (by conv => lhs; whnf) (pv_cons (by conv => lhs; whnf) (pv_cons (by conv => lhs; whnf) pv_nil)))) Tryz.underlying271 z271 (pl271 Tryz.underlying271) rfl) ?_; refine th_one (i := 14) (by kernel_rfl) ?_; refine oh_x (i := 14) (listed' := #[tt,tt,tt,tt,tt,tt,tt,tt,tt,tt,tt,tt,tt,tt,tt,ff,ff,ff]) rfl rfl rfl (o_box rfl rfl) ?_; rintro _ _ ⟨b31, rfl, rfl⟩; refine ⟨by repeat (first | with_reducible exact dr_refl | apply dr_keep | apply dr_drop), ?_⟩; refine th_take (i := 15) (listed' := #[tt,tt,tt,tt,tt,tt,tt,tt,tt,tt,tt,tt,tt,tt,tt,tt,ff,ff]) rfl (by kernel_rfl) (by kernel_rfl) (by kernel_rfl) rfl rfl (o_nilCheck rfl) ?_
          refine th_take (i := 16) (listed' := #[tt,tt,tt,tt,tt,tt,tt,tt,tt,tt,tt,tt,tt,tt,tt,tt,tt,ff]) rfl (by kernel_rfl) (by kernel_rfl) (by kernel_rfl) rfl rfl (o_fieldAddr (o := 4) Tryz.underlying237 rfl rfl sz50 rfl) ?_; refine th_one (i := 17) (by kernel_rfl) ?_; refine oh_u (i := 17) (listed' := #[tt,tt,tt,tt,tt,tt,tt,tt,tt,tt,tt,tt,tt,tt,tt,tt,tt,tt]) rfl rfl rfl (o_stU (l' := [.pointer (some ⟨q, 0, none⟩), .int .i64 ((at_ : Nat) : Int), .int .i64 ((n : Nat) : Int), l, .pointer (some ⟨b31, 0, none⟩)]) rfl (by repeat (first | with_reducible exact upd_here | with_reducible exact upd_pt | apply upd_left)) sz50 rfl rfl (by show 4 < 5; decide) rfl) (by repeat (first | with_reducible exact dr_refl | apply dr_keep | apply dr_drop)) ?_; refine th_done (by kernel_rfl) ?_; refine q_then_n ?_; refine sr ?_; refine tlm ?_; refine tv (o_nilCheck rfl) ?_; refine tv (o_fieldAddr (o := 4) Tryz.underlying237 rfl rfl sz50 rfl) ?_; refine tv (o_load p50 rfl (by repeat (first | with_reducible exact has_here | with_reducible exact has_pt | apply has_left)) rfl) ?_; refine tla ?_; refine tla ?_; refine nq ?_; refine tc_ret ?_; exact ⟨_, _, res2 rfl rfl rfl, (fun g w h => pt_bos (b := b29) ((pt_bos (b := b24) (h.perm (show _ = R * pt hd (cl [.pointer (some ⟨q, 0, none⟩), .int .i64 ((at_ : Nat) : Int), .int .i64 ((n : Nat) : Int), l, .pointer (some ⟨b31, 0, none⟩)] 237) * pt q (cl [.pointer (some ⟨r, 0, none⟩), .pointer (some ⟨lg, 0, none⟩), .pointer (some ⟨t11, 0, none⟩)] 235) * pt lg (cl [.pointer (some ⟨r, 0, none⟩), .int .i64 ((la : Nat) : Int), .int .i64 ((lz : Nat) : Int)] 233) * RDev r s * pt t11 (cl [.pointer (some ⟨q, 0, none⟩), .slice none 0 0, .bool false] 263) * pt b31 (cl [.pointer (some ⟨hd, 0, none⟩), .pointer (some ⟨t11, 0, none⟩), .slice (some ⟨b24, 0, none⟩) n n, .slice (some ⟨b29, 0, none⟩) n n, .bool false] 271) * pt b29 (cl (List.replicate n (.bool false)) 4) * pt b24 (cl (List.replicate n (.bool false)) 4) by ac_rfl))).perm (show _ = R * pt hd (cl [.pointer (some ⟨q, 0, none⟩), .int .i64 ((at_ : Nat) : Int), .int .i64 ((n : Nat) : Int), l, .pointer (some ⟨b31, 0, none⟩)] 237) * pt q (cl [.pointer (some ⟨r, 0, none⟩), .pointer (some ⟨lg, 0, none⟩), .pointer (some ⟨t11, 0, none⟩)] 235) * pt lg (cl [.pointer (some ⟨r, 0, none⟩), .int .i64 ((la : Nat) : Int), .int .i64 ((lz : Nat) : Int)] 233) * RDev r s * pt t11 (cl [.pointer (some ⟨q, 0, none⟩), .slice none 0 0, .bool false] 263) * pt b31 (cl [.pointer (some ⟨hd, 0, none⟩), .pointer (some ⟨t11, 0, none⟩), .slice (some ⟨b24, 0, none⟩) n n, .slice (some ⟨b29, 0, none⟩) n n, .bool false] 271) * Sl 1 (.slice (some ⟨b24, 0, none⟩) n n) n (bos (wasL n [])) * pt b29 (cl (List.replicate n (.bool false)) 4) by ac_rfl))), t11, b24, b29, b31, rfl, rfl⟩
      · skip
        refine oh_x (i := 12) (listed' := #[tt,tt,tt,tt,tt,tt,ff,ff,tt,tt,tt,tt,tt,ff,ff,ff,ff,ff]) rfl rfl rfl (o_makeSlice (len := n) (cap := n) Tryz.underlying146 sz4 by4 z4 rfl rfl rfl (by omega) (by omega) (by omega)) ?_; rintro _ _ ⟨b29, rfl, rfl⟩; refine ⟨by repeat (first | with_reducible exact dr_refl | apply dr_keep | apply dr_drop), ?_⟩; refine th_one (i := 6) (by kernel_rfl) ?_; refine oh_v (i := 6) (listed' := #[tt,tt,tt,tt,tt,tt,tt,ff,tt,tt,tt,tt,tt,ff,ff,ff,ff,ff]) rfl rfl rfl (o_load p3 rfl (by repeat (first | with_reducible exact has_here | with_reducible exact has_pt | apply has_left)) rfl) ?_; refine th_one (i := 7) (by kernel_rfl) ?_; refine oh_x (i := 7) (listed' := #[tt,tt,tt,tt,tt,tt,tt,tt,tt,tt,tt,tt,tt,ff,ff,ff,ff,ff]) rfl rfl rfl (o_makeSlice (len := n) (cap := n) Tryz.underlying146 sz4 by4 z4 rfl rfl rfl (by omega) (by omega) (by omega)) ?_; rintro _ _ ⟨b24, rfl, rfl⟩; refine ⟨by repeat (first | with_reducible exact dr_refl | apply dr_keep | apply dr_drop), ?_⟩; refine th_take (i := 13) (listed' := #[tt,tt,tt,tt,tt,tt,tt,tt,tt,tt,tt,tt,tt,tt,ff,ff,ff,ff]) rfl (by kernel_rfl) (by kernel_rfl) (by kernel_rfl) rfl rfl (o_bS (l := [_, _, _, _, _]) (pv_cons (by conv => lhs; whnf) (pv_cons (by conv => lhs; whnf) (pv_cons (by conv => lhs; whnf) (pv_cons (by conv => lhs; whnf) pv_nil)))) Tryz.underlying271 z271 (pl271 Tryz.underlying271) rfl) ?_; refine th_one (i := 14) (by kernel_rfl) ?_; refine oh_x (i := 14) (listed' := #[tt,tt,tt,tt,tt,tt,tt,tt,tt,tt,tt,tt,tt,tt,tt,ff,ff,ff]) rfl rfl rfl (o_box rfl rfl) ?_
        rintro _ _ ⟨b31, rfl, rfl⟩; refine ⟨by repeat (first | with_reducible exact dr_refl | apply dr_keep | apply dr_drop), ?_⟩; refine th_take (i := 15) (listed' := #[tt,tt,tt,tt,tt,tt,tt,tt,tt,tt,tt,tt,tt,tt,tt,tt,ff,ff]) rfl (by kernel_rfl) (by kernel_rfl) (by kernel_rfl) rfl rfl (o_nilCheck rfl) ?_; refine th_take (i := 16) (listed' := #[tt,tt,tt,tt,tt,tt,tt,tt,tt,tt,tt,tt,tt,tt,tt,tt,tt,ff]) rfl (by kernel_rfl) (by kernel_rfl) (by kernel_rfl) rfl rfl (o_fieldAddr (o := 4) Tryz.underlying237 rfl rfl sz50 rfl) ?_; refine th_one (i := 17) (by kernel_rfl) ?_; refine oh_u (i := 17) (listed' := #[tt,tt,tt,tt,tt,tt,tt,tt,tt,tt,tt,tt,tt,tt,tt,tt,tt,tt]) rfl rfl rfl (o_stU (l' := [.pointer (some ⟨q, 0, none⟩), .int .i64 ((at_ : Nat) : Int), .int .i64 ((n : Nat) : Int), l, .pointer (some ⟨b31, 0, none⟩)]) rfl (by repeat (first | with_reducible exact upd_here | with_reducible exact upd_pt | apply upd_left)) sz50 rfl rfl (by show 4 < 5; decide) rfl) (by repeat (first | with_reducible exact dr_refl | apply dr_keep | apply dr_drop)) ?_; refine th_done (by kernel_rfl) ?_; refine q_then_n ?_; refine sr ?_; refine tlm ?_; refine tv (o_nilCheck rfl) ?_; refine tv (o_fieldAddr (o := 4) Tryz.underlying237 rfl rfl sz50 rfl) ?_; refine tv (o_load p50 rfl (by repeat (first | with_reducible exact has_here | with_reducible exact has_pt | apply has_left)) rfl) ?_; refine tla ?_
        refine tla ?_; refine nq ?_; refine tc_ret ?_; exact ⟨_, _, res2 rfl rfl rfl, (fun g w h => pt_bos (b := b29) ((pt_bos (b := b24) (h.perm (show _ = R * pt hd (cl [.pointer (some ⟨q, 0, none⟩), .int .i64 ((at_ : Nat) : Int), .int .i64 ((n : Nat) : Int), l, .pointer (some ⟨b31, 0, none⟩)] 237) * pt q (cl [.pointer (some ⟨r, 0, none⟩), .pointer (some ⟨lg, 0, none⟩), .pointer (some ⟨t11, 0, none⟩)] 235) * pt lg (cl [.pointer (some ⟨r, 0, none⟩), .int .i64 ((la : Nat) : Int), .int .i64 ((lz : Nat) : Int)] 233) * RDev r s * pt t11 (cl [.pointer (some ⟨q, 0, none⟩), .slice none 0 0, .bool false] 263) * pt b31 (cl [.pointer (some ⟨hd, 0, none⟩), .pointer (some ⟨t11, 0, none⟩), .slice (some ⟨b24, 0, none⟩) n n, .slice (some ⟨b29, 0, none⟩) n n, .bool false] 271) * pt b29 (cl (List.replicate n (.bool false)) 4) * pt b24 (cl (List.replicate n (.bool false)) 4) by ac_rfl))).perm (show _ = R * pt hd (cl [.pointer (some ⟨q, 0, none⟩), .int .i64 ((at_ : Nat) : Int), .int .i64 ((n : Nat) : Int), l, .pointer (some ⟨b31, 0, none⟩)] 237) * pt q (cl [.pointer (some ⟨r, 0, none⟩), .pointer (some ⟨lg, 0, none⟩), .pointer (some ⟨t11, 0, none⟩)] 235) * pt lg (cl [.pointer (some ⟨r, 0, none⟩), .int .i64 ((la : Nat) : Int), .int .i64 ((lz : Nat) : Int)] 233) * RDev r s * pt t11 (cl [.pointer (some ⟨q, 0, none⟩), .slice none 0 0, .bool false] 263) * pt b31 (cl [.pointer (some ⟨hd, 0, none⟩), .pointer (some ⟨t11, 0, none⟩), .slice (some ⟨b24, 0, none⟩) n n, .slice (some ⟨b29, 0, none⟩) n n, .bool false] 271) * Sl 1 (.slice (some ⟨b24, 0, none⟩) n n) n (bos (wasL n [])) * pt b29 (cl (List.replicate n (.bool false)) 4) by ac_rfl))), t11, b24, b29, b31, rfl, rfl⟩
end Go.Vl

namespace Go.Vl
open Go Go.Proofs
theorem RsRows.left {A Z : SP} {a : Option Addr} {fs : List (List Nat)} (h : RsRows A a fs) : RsRows (A * Z) a fs := by
  obtain ⟨vs, h1, h2, h3⟩ := h
  exact ⟨vs, h1, h2.left, fun i hi => by obtain ⟨b, c, e1, e2, e3, e4⟩ := h3 i hi; exact ⟨b, c, e1, e2, e3, e4.left⟩⟩
def pvO (o : Option Nat) : Value := .pointer (o.map fun b => (⟨b, 0, none⟩ : Addr))
def gcs (d h w r g k : Option Nat) (n : Nat) : List Value := [pvO d, pvO h, pvO w, pvO r, pvO g, pvO k, .int .i64 ((n : Nat) : Int)]
theorem lw14 {s : DevS} {n : Nat} (h : s.ls.length * 64 = 16512 + 256 * n) : LogW (s.ls.length * 64) 128 16384 := by rw [h]; exact ⟨by decide, by decide, by decide, by decide, by omega⟩
theorem stp14 {s : DevS} (h : recordsS 128 16384 s = ([], 0)) : stpS 128 16384 s = 0 := by unfold stpS; rw [h]; rfl
def s14 (n : Nat) (I : List Nat) : DevS := fromS (258 + 4 * n) I
theorem s14_def (n : Nat) (I : List Nat) : fromS (258 + 4 * n) I = s14 n I := rfl
theorem s14_ls (n : Nat) (I : List Nat) : (s14 n I).ls.length * 64 = 16512 + 256 * n := by simp [s14, fromS, newS]; omega
theorem s14_off (n : Nat) (I : List Nat) : (s14 n I).off = false := rfl
theorem s14_img {n : Nat} {st : List Nat × List Nat} (h : ImOk n st) : imgS (s14 n st.1) = st.1 := img_from h.by_ (by rw [h.len]; omega)
theorem s14_rec {n : Nat} {st : List Nat × List Nat} (h : ImOk n st) : recordsS 128 16384 (s14 n st.1) = ([], 0) := by
  refine records_none (s14_off _ _) (lw14 (s14_ls _ _)) ?_
  rw [s14_img h]
  have : (st.1.drop 128).take 8 = List.replicate 8 0 := by
    have e : (st.1.drop 128).take 8 = ((st.1.take 16512).drop 128).take 8 := by rw [List.drop_take, List.take_take]; rfl
    rw [e, h.z, List.drop_replicate, List.take_replicate]; rfl
  rw [this]; decide
theorem s14_recB {n : Nat} {I live : List Nat} (h : ImOk n (I, live)) : recordsS 128 16384 (s14 n I) = ([], 0) := by
  have h9 := s14_rec h
  simp only [] at h9
  exact h9
/-- A work that begins. -/
def T014 (zs : List Nat) : WkT := ⟨onL zs, g0, g0, tf0⟩
def Y014 (M : MS) : WkY := ⟨M, ⟨[], 0⟩, ⟨[], 0⟩, ⟨[], 0⟩, 0⟩
theorem wk014 {X : WkX} {M : MS} {zs : List Nat} {N : Nat} (h : SF M X.n (onL zs)) : WkOk X (Y014 M) (T014 zs) N :=
  ⟨h, sf_nil _ _, sf_nil _ _, mf_nil _ _, Nat.zero_le _, fun b hb => absurd hb (Nat.not_lt_zero b), fun b hb => (by cases hb), fun b hb => (by cases hb)⟩
attribute [local irreducible] crk crL crc Sl pt ro Dev imgS recS readS recsF rdW rdO rkT Parts rvl recordsS runsL adrF kcl xcl kys runA runsF layF ovF TxA adZ WkA SlB blkS conB imF RDev s14
theorem begin14_c {A R : SP} {gx n d hd lv p lg r hr q lr : Nat} {l : Value} {s : DevS} (hA : A = R * pt gx (cl (gcs (some d) (some hd) none (some r) (some hr) none n) 52) * (pt hd (cl (hcs p 16512 n lv none) 210) * pt p (cl (pocs lg d none) 110) * pt lg (cl (lcs11 d 128 16384) 99) * Dev d s) * (pt hr (cl [.pointer (some ⟨q, 0, none⟩), .int .i64 ((16512 : Nat) : Int), .int .i64 ((n : Nat) : Int), l, .pointer none] 237) * pt q (cl [.pointer (some ⟨r, 0, none⟩), .pointer (some ⟨lr, 0, none⟩), .pointer none] 235) * pt lr (cl [.pointer (some ⟨r, 0, none⟩), .int .i64 ((128 : Nat) : Int), .int .i64 ((16384 : Nat) : Int)] 233) * RDev r s)) (hls : s.ls.length * 64 = 16512 + 256 * n) (hst : recordsS 128 16384 s = ([], 0)) (hn : n ≤ 60) (ho : s.off = false) :
    Fn Tryz.prog 85 #[.pointer (some ⟨gx, 0, none⟩)] (A) (fun v B => ∃ w t mb tk gv w2 t2 k1 k2, v = .bool true ∧ B = R * pt gx (cl (gcs (some d) (some hd) (some w) (some r) (some hr) (some w2) n) 52) * (pt hd (cl (hcs p 16512 n lv (some w)) 210) * TxA t p lg d mb 128 16384 ⟨[], 0⟩ false s * pt tk (mpo .i64 ⟨[], 0⟩) * pt gv (mpo .i64 ⟨[], 0⟩) * pt w (cl (wcs hd t tk gv 0 false) 66)) * (pt hr (cl [.pointer (some ⟨q, 0, none⟩), .int .i64 ((16512 : Nat) : Int), .int .i64 ((n : Nat) : Int), l, .pointer (some ⟨w2, 0, none⟩)] 237) * pt q (cl [.pointer (some ⟨r, 0, none⟩), .pointer (some ⟨lr, 0, none⟩), .pointer (some ⟨t2, 0, none⟩)] 235) * pt lr (cl [.pointer (some ⟨r, 0, none⟩), .int .i64 ((128 : Nat) : Int), .int .i64 ((16384 : Nat) : Int)] 233) * RDev r s * pt t2 (cl [.pointer (some ⟨q, 0, none⟩), .slice none 0 0, .bool false] 263) * pt w2 (cl [.pointer (some ⟨hr, 0, none⟩), .pointer (some ⟨t2, 0, none⟩), .slice (some ⟨k1, 0, none⟩) n n, .slice (some ⟨k2, 0, none⟩) n n, .bool false] 271) * Sl 1 (.slice (some ⟨k1, 0, none⟩) n n) n (bos (wasL n [])) * Sl 1 (.slice (some ⟨k2, 0, none⟩) n n) n (bos (wasL n [])))) := by
  refine fn_enterW (args := [.pointer (some ⟨gx, 0, none⟩)]) Tryz.func85 rfl Tryz.ntmps85 (by simp) ?_
  subst hA
  refine sr ?_; refine tla ?_; refine nq ?_; refine sr ?_; refine tlm ?_; refine tv (o_nilCheck rfl) ?_; refine tv (o_fieldAddr (o := 1) Tryz.underlying52 rfl rfl sz27 rfl) ?_; refine tv (o_load p27 rfl (by repeat (first | with_reducible exact has_here | with_reducible exact has_pt | apply has_left)) rfl) ?_; refine tl_c rfl (o_call bd155 rfl (BeginH_c (R := R * pt gx (cl (gcs (some d) (some hd) none (some r) (some hr) none n) 52) * (pt hr (cl [.pointer (some ⟨q, 0, none⟩), .int .i64 ((16512 : Nat) : Int), .int .i64 ((n : Nat) : Int), l, .pointer none] 237) * pt q (cl [.pointer (some ⟨r, 0, none⟩), .pointer (some ⟨lr, 0, none⟩), .pointer none] 235) * pt lr (cl [.pointer (some ⟨r, 0, none⟩), .int .i64 ((128 : Nat) : Int), .int .i64 ((16384 : Nat) : Int)] 233) * RDev r s)) (hd := hd) (p := p) (ba := 16512) (n := n) (lv := lv) (lg := lg) (d := d) (at_ := 128) (sz := 16384) (s := s) (hA := by ac_rfl) (hlw := lw14 hls) (ho := ho) (hst := stp14 hst))) ?_; rintro _ _ ⟨w12, t12, mb12, tk12, gv12, rfl, rfl⟩; refine tlm ?_; refine tv (o_extract rfl rfl) ?_; refine tv (o_extract rfl rfl) ?_; refine tla ?_; refine tla ?_; refine nq ?_; refine sr ?_; refine tlm ?_; refine tv (o_nilCheck rfl) ?_; refine tv (o_fieldAddr (o := 4) Tryz.underlying52 rfl rfl sz49 rfl) ?_; refine tv (o_load p49 rfl (by repeat (first | with_reducible exact has_here | with_reducible exact has_pt | apply has_left)) rfl) ?_
  refine tl_c rfl (o_call bd156 rfl (rBegin13_c (R := R * pt gx (cl (gcs (some d) (some hd) none (some r) (some hr) none n) 52) * (pt hd (cl (hcs p 16512 n lv (some w12)) 210) * TxA t12 p lg d mb12 128 16384 ⟨[], 0⟩ false s * pt tk12 (mpo .i64 ⟨[], 0⟩) * pt gv12 (mpo .i64 ⟨[], 0⟩) * pt w12 (cl (wcs hd t12 tk12 gv12 0 false) 66))) (hd := hr) (n := n) (at_ := 16512) (q := q) (r := r) (lg := lr) (la := 128) (lz := 16384) (l := l) (s := s) (hA := by ac_rfl) (hlw := lw14 hls) (hre := hst) (hn := by omega))) ?_; rintro _ _ ⟨t20, k20, j20, w20, rfl, rfl⟩; refine tlm ?_; refine tv (o_extract rfl rfl) ?_; refine tv (o_extract rfl rfl) ?_; refine tla ?_; refine tla ?_; refine nq ?_; refine sr ?_; refine tlm ?_; refine tlm ?_; refine tv (o_nilCheck rfl) ?_; refine tv (o_fieldAddr (o := 2) Tryz.underlying52 rfl rfl sz28 rfl) ?_; refine tl_u rfl (o_stU (l' := gcs (some d) (some hd) (some w12) (some r) (some hr) none n) rfl (by repeat (first | with_reducible exact upd_here | with_reducible exact upd_pt | apply upd_left)) sz28 rfl rfl (by show 2 < 7; decide) rfl) ?_; refine nq ?_; refine sr ?_; refine tlm ?_; refine tlm ?_; refine tv (o_nilCheck rfl) ?_; refine tv (o_fieldAddr (o := 5) Tryz.underlying52 rfl rfl sz50 rfl) ?_; refine tl_u rfl (o_stU (l' := gcs (some d) (some hd) (some w12) (some r) (some hr) (some w20) n) rfl (by repeat (first | with_reducible exact upd_here | with_reducible exact upd_pt | apply upd_left)) sz50 rfl rfl (by show 5 < 7; decide) rfl) ?_
  refine nq ?_; refine sr ?_; refine tlm ?_; refine tlm ?_; refine tv (o_eqi rfl rfl) ?_; refine tlm ?_; refine tl_bool (d := 34) rfl (fun h => ?_) (fun h => ?_)
  · try simp only [lv1, lv2, lv3, lv4, lv5, lv6, Bool.not_true, Bool.not_false] at h
    refine tlm ?_; refine tv (o_eqp Tryz.underlying28 rfl rfl) ?_; refine tlm ?_; refine tv (o_eqp Tryz.underlying50 rfl rfl) ?_; refine tv (o_eqb Tryz.underlying4 rfl rfl) ?_; refine tv (o_pick_t rfl (by conv => lhs; whnf)) ?_; refine tla ?_; refine nq ?_; refine tc_ret ?_; exact ⟨.bool true, _, res1 rfl rfl, (fun g w h => h.perm (by ac_rfl)), w12, t12, mb12, tk12, gv12, w20, t20, k20, j20, rfl, rfl⟩
  · exfalso; simp at h
theorem ct_eq {A X R : SP} {C : SP → SP} (h : Ct A X R C) : A = R * X := h.1
theorem image2_c {A : SP} {bl : Int} {aL aF : Option Addr} {nL cL nF cF n : Nat} {ls : List Int} {fs : List (List Nat)} {I live : List Nat} (hn : nB bl = n) (hI : imF n fs ls = (I, live)) (hbl : -9223372036854775808 ≤ bl ∧ bl ≤ 9223372036854775807) (hrL : Rs A aL (ints ls)) (hlL : ls.length = nL) (hLb : nL ≤ 140737488351232) (hrF : RsRows A aF fs) (hlF : fs.length = nF) (hFb : nF ≤ 140737488351232) (hfb : ∀ f ∈ fs, ∀ x ∈ f, x < 256) :
    Fn Tryz.prog 77 #[.agg ([.int .i64 bl, .slice aL nL cL, .slice aF nF cF] : List Value).toArray] A (fun r B => ∃ a c a2 c2, r = .tuple #[.slice a (16512 + 256 * n) c, .slice a2 live.length c2] ∧ (16512 + 256 * n ≤ c ∧ live.length ≤ c2) ∧ B = A * Sl 1 (.slice a (16512 + 256 * n) c) (16512 + 256 * n) (bys I) * Sl 1 (.slice a2 live.length c2) live.length (ints (natI live))) := by
  subst hn
  refine (image_c (aL := aL) (aF := aF) (cL := cL) (cF := cF) hbl hrL hlL hLb hrF hlF hFb hfb).mono ?_; rintro v B ⟨a, m, c, a2, k, c2, rfl, ⟨rfl, h2, rfl, h4⟩, rfl⟩
  rw [hI] at h4 ⊢
  exact ⟨a, c, a2, c2, rfl, ⟨h2, h4⟩, rfl⟩
set_option maxRecDepth 20000 in
set_option maxHeartbeats 2000000 in
theorem laid_c {A : SP} {bl : Int} {aL aF : Option Addr} {nL cL nF cF n : Nat} {ls : List Int} {fs : List (List Nat)} {I live : List Nat} (hn : nB bl = n) (hI : imF n fs ls = (I, live)) (hbl : -9223372036854775808 ≤ bl ∧ bl ≤ 9223372036854775807) (hrL : Rs A aL (ints ls)) (hlL : ls.length = nL) (hLb : nL ≤ 140737488351232) (hrF : RsRows A aF fs) (hlF : fs.length = nF) (hFb : nF ≤ 140737488351232) (hfb : ∀ f ∈ fs, ∀ x ∈ f, x < 256) :
    Fn Tryz.prog 21 #[.agg ([.int .i64 bl, .slice aL nL cL, .slice aF nF cF] : List Value).toArray] (A) (fun v B => ∃ gx X M r hr q lr w2 t2 k1 k2 l, v = .tuple #[.pointer (some ⟨gx, 0, none⟩), .bool true] ∧ (X.n = n ∧ X.ba = 16512 ∧ X.at_ = 128 ∧ X.sz = 16384) ∧ SF M n (onL live) ∧ B = A * pt gx (cl (gcs (some X.d) (some X.h) (some X.w) (some r) (some hr) (some w2) n) 52) * WkA X (Y014 M) (s14 n I) * (pt hr (cl [.pointer (some ⟨q, 0, none⟩), .int .i64 ((16512 : Nat) : Int), .int .i64 ((n : Nat) : Int), .slice (some ⟨l, 0, none⟩) n n, .pointer (some ⟨w2, 0, none⟩)] 237) * pt q (cl [.pointer (some ⟨r, 0, none⟩), .pointer (some ⟨lr, 0, none⟩), .pointer (some ⟨t2, 0, none⟩)] 235) * pt lr (cl [.pointer (some ⟨r, 0, none⟩), .int .i64 ((128 : Nat) : Int), .int .i64 ((16384 : Nat) : Int)] 233) * RDev r (s14 n I) * pt t2 (cl [.pointer (some ⟨q, 0, none⟩), .slice none 0 0, .bool false] 263) * pt w2 (cl [.pointer (some ⟨hr, 0, none⟩), .pointer (some ⟨t2, 0, none⟩), .slice (some ⟨k1, 0, none⟩) n n, .slice (some ⟨k2, 0, none⟩) n n, .bool false] 271) * Sl 1 (.slice (some ⟨k1, 0, none⟩) n n) n (bos (wasL n [])) * Sl 1 (.slice (some ⟨k2, 0, none⟩) n n) n (bos (wasL n []))) * Sl 1 (.slice (some ⟨l, 0, none⟩) n n) n (bos (wasL n live))) := by
  refine fn_enterW (args := [.agg ([.int .i64 bl, .slice aL nL cL, .slice aF nF cF] : List Value).toArray]) Tryz.func21 rfl Tryz.ntmps21 (by simp) ?_
  obtain ⟨hn1, hn2, hn3⟩ := nB_b bl
  rw [hn] at hn1 hn2 hn3
  have hIm := imF_ok (n := n) (fs := fs) (by omega) hfb ls
  rw [hI] at hIm
  have hIl : I.length = 16512 + 256 * n := hIm.len
  have hIb : ∀ x ∈ I, x < 256 := hIm.by_
  have hnd : live.Nodup := hIm.nd
  have hlt : ∀ x ∈ live, x < n := hIm.lt
  have hll : live.length ≤ n := nodup_le hnd hlt
  have hsl := s14_ls n I
  have hso := s14_off n I
  have hsr := s14_recB hIm
  have hs5 : 258 + 4 * n ≤ 65536 := by omega
  refine sr ?_; refine tl_x rfl (o_box rfl rfl) ?_; rintro _ _ ⟨b1, rfl, rfl⟩; refine tla ?_; refine tla ?_; refine nq ?_; refine sr ?_; refine tv (o_loadN a43 sz43 rfl (by repeat (first | with_reducible exact has_here | with_reducible exact has_pt | apply has_left)) (by exact Nat.le_refl 3) rfl) ?_; refine tl_c rfl (o_call bd77 rfl (image2_c (hn := hn) (hI := hI) (hbl := hbl) (hrL := hrL.left) (hlL := hlL) (hLb := hLb) (hrF := hrF.left) (hlF := hlF) (hFb := hFb) (hfb := hfb))) ?_; rintro _ _ ⟨a18, c18, p18, d18, rfl, ⟨hc18, hd18⟩, rfl⟩; refine tlm ?_; refine tv (o_extract rfl rfl) ?_; refine tv (o_extract rfl rfl) ?_; refine tla ?_; refine tla ?_; refine nq ?_; refine sr ?_; refine tv (o_fieldAddr (o := 0) Tryz.underlying43 rfl rfl sz3 rfl) ?_; refine tv (o_load p3 rfl (by repeat (first | with_reducible exact has_here | with_reducible exact has_pt | apply has_left)) rfl) ?_; refine tv (by first | exact o_subI rfl rfl (by omega) | exact o_sub rfl rfl) ?_; refine tl_c rfl (o_call bd16 rfl (within14_c (i := IntKind.i64.wrap (bl - 1)) (n := 60))) ?_; rintro _ _ ⟨rfl, rfl⟩; refine tv (o_addI rfl rfl (by omega)) ?_; refine tl_env (d := 25) (v := .int .i64 ((n : Nat) : Int)) (congrArg (Value.int .i64) hn3.symm) ?_; refine tv (o_bS (l := gcs none none none none none none n) (pv_cons (by conv => lhs; whnf) pv_nil) Tryz.underlying52 z52 (pl52 Tryz.underlying52) rfl) ?_
  refine tl_x rfl (o_box rfl rfl) ?_; rintro _ _ ⟨b27, rfl, rfl⟩; refine tla ?_; refine nq ?_; refine sr ?_; refine tlm ?_; refine tl_c rfl (o_call bd52 rfl (CopyBytes_c (xs := I) (hm := hIl) (hr := by repeat (first | with_reducible exact rs_sl | apply Rs.left)))) ?_; rintro _ _ ⟨a30, c30, rfl, hc30, rfl⟩; refine tl_c rfl (o_call bd51 rfl (From_c (n := 258 + 4 * n) (xs := I) (hr := rs_sl) (hx := hIl) (hm := by omega) (hb := hIb) (hn := by omega) (hn2 := hs5))) ?_; rintro _ _ ⟨d31, rfl, rfl⟩
  rw [s14_def]
  refine tlm ?_; refine tv (o_extract rfl rfl) ?_; refine tv (o_extract rfl rfl) ?_; refine tla ?_; refine tla ?_; refine nq ?_; refine tc_seq ?_; refine sr ?_; refine tlm ?_; refine tv (o_nei rfl rfl) ?_; refine tlm ?_; refine tl_bool (d := 36) rfl (fun h => ?_) (fun h => ?_)
  · exfalso; simp at h
  · try simp only [lv1, lv2, lv3, lv4, lv5, lv6, Bool.not_true, Bool.not_false] at h
    refine tlm ?_; refine tv (o_eqp Tryz.underlying47 rfl rfl) ?_; refine tv (o_pick_f rfl (by conv => lhs; whnf)) ?_; refine nq ?_; refine tc_cond rfl (fun h => ?_) (fun h => ?_)
    · exfalso; simp at h
    · try simp only [lv1, lv2, lv3, lv4, lv5, lv6, Bool.not_true, Bool.not_false] at h
      refine tc_skip ?_; refine q_then_n ?_; refine sr ?_; refine tlm ?_; refine tlm ?_; refine tv (o_nilCheck rfl) ?_; refine tv (o_fieldAddr (o := 0) Tryz.underlying52 rfl rfl sz47 rfl) ?_; refine tl_u rfl (o_stU (l' := gcs (some d31) none none none none none n) rfl (by repeat (first | with_reducible exact upd_here | with_reducible exact upd_pt | apply upd_left)) sz47 rfl rfl (by show 0 < 7; decide) rfl) ?_; refine nq ?_; refine sr ?_; refine tlm ?_; refine tl_c rfl (o_call bd38 rfl (Open_ok (s := s14 n I) (p := 128) (q := 16384) (hok := by omega))) ?_; rintro _ _ ⟨b46, rfl, rfl⟩; refine tlm ?_; refine tv (o_extract rfl rfl) ?_; refine tv (o_extract rfl rfl) ?_; refine tla ?_; refine tla ?_; refine nq ?_; refine tc_seq ?_; refine sr ?_; refine tlm ?_; refine tv (o_nei rfl rfl) ?_; refine tlm ?_; refine tl_bool (d := 51) rfl (fun h => ?_) (fun h => ?_)
      · exfalso; simp at h
      · try simp only [lv1, lv2, lv3, lv4, lv5, lv6, Bool.not_true, Bool.not_false] at h
        refine tlm ?_; refine tv (o_eqp Tryz.underlying89 rfl rfl) ?_; refine tv (o_pick_f rfl (by conv => lhs; whnf)) ?_; refine nq ?_; refine tc_cond rfl (fun h => ?_) (fun h => ?_)
        · exfalso; simp at h
        · try simp only [lv1, lv2, lv3, lv4, lv5, lv6, Bool.not_true, Bool.not_false] at h
          refine tc_skip ?_; refine q_then_n ?_; refine sr ?_; refine tlm ?_; refine tlm ?_; refine tl_c rfl (o_call bd39 rfl (New12_c (s := s14 n I) (at_ := 128) (sz := 16384) (lg := b46) (hl := has_here) (hlw := lw14 hsl))) ?_; rintro _ _ ⟨p58, rfl, rfl⟩; refine tlm ?_; refine tv (o_extract rfl rfl) ?_; refine tv (o_extract rfl rfl) ?_; refine tla ?_; refine tla ?_; refine nq ?_; refine tc_seq ?_; refine sr ?_; refine tlm ?_; refine tv (o_nei rfl rfl) ?_; refine tlm ?_; refine tl_bool (d := 63) rfl (fun h => ?_) (fun h => ?_)
          · exfalso; simp at h
          · try simp only [lv1, lv2, lv3, lv4, lv5, lv6, Bool.not_true, Bool.not_false] at h
            refine tlm ?_; refine tv (o_eqp Tryz.underlying69 rfl rfl) ?_; refine tv (o_pick_f rfl (by conv => lhs; whnf)) ?_; refine nq ?_; refine tc_cond rfl (fun h => ?_) (fun h => ?_)
            · exfalso; simp at h
            · try simp only [lv1, lv2, lv3, lv4, lv5, lv6, Bool.not_true, Bool.not_false] at h
              refine tc_skip ?_; refine q_then_n ?_; refine sr ?_; refine tlm ?_; refine tlm ?_; refine tv (o_nilCheck rfl) ?_; refine tv (o_fieldAddr (o := 6) Tryz.underlying52 rfl rfl sz3 rfl) ?_; refine tv (o_load p3 rfl (by repeat (first | with_reducible exact has_here | with_reducible exact has_pt | apply has_left)) rfl) ?_; refine tl_c rfl (o_call bd78 rfl (NewH_c (s := s14 n I) (ba := 16512) (n := n) (p := p58) (h64 := by decide) (h1 := by decide) (h2 := by omega) (htop := by omega) (hpos := by omega))) ?_; rintro _ _ ⟨lv73, h73, rfl, rfl⟩; refine tlm ?_; refine tv (o_extract rfl rfl) ?_; refine tv (o_extract rfl rfl) ?_; refine tla ?_; refine tla ?_; refine nq ?_; refine tc_seq ?_; refine sr ?_; refine tlm ?_; refine tv (o_nei rfl rfl) ?_; refine tlm ?_; refine tl_bool (d := 78) rfl (fun h => ?_) (fun h => ?_)
              · exfalso; simp at h
              · try simp only [lv1, lv2, lv3, lv4, lv5, lv6, Bool.not_true, Bool.not_false] at h
                refine tlm ?_; refine tv (o_eqp Tryz.underlying27 rfl rfl) ?_; refine tv (o_pick_f rfl (by conv => lhs; whnf)) ?_; refine tlm ?_; refine tl_bool (d := 82) rfl (fun h => ?_) (fun h => ?_)
                · exfalso; simp at h
                · try simp only [lv1, lv2, lv3, lv4, lv5, lv6, Bool.not_true, Bool.not_false] at h
                  refine tlm ?_; refine tlm ?_; refine tl_c rfl (o_call bd80 rfl (CopyInts_c (xs := natI live) (hm := natI_len live) (hr := by repeat (first | with_reducible exact rs_sl | apply Rs.left)))) ?_; rintro _ _ ⟨a85, c85, rfl, hc85, rfl⟩; refine tl_c rfl (o_call bd79 rfl (LoadH_c (zs := live) (hd := h73) (p := p58) (ba := 16512) (n := n) (lv := lv73) (hA := ct_eq (by repeat (first | with_reducible exact ct_here | apply ct_left))) (hr := by repeat (first | with_reducible exact rs_sl | apply Rs.left)) (hm := rfl) (hnd := hnd) (hz := hlt) (hn := by omega) (hml := by omega))) ?_; rintro _ _ ⟨l86, M86, rfl, hM86, rfl⟩; refine tv (o_nei rfl rfl) ?_; refine tv (o_pick_f rfl (by conv => lhs; whnf)) ?_; refine nq ?_; refine tc_cond rfl (fun h => ?_) (fun h => ?_)
                  · exfalso; simp at h
                  · try simp only [lv1, lv2, lv3, lv4, lv5, lv6, Bool.not_true, Bool.not_false] at h
                    refine tc_skip ?_; refine q_then_n ?_; refine sr ?_; refine tlm ?_; refine tlm ?_; refine tv (o_nilCheck rfl) ?_; refine tv (o_fieldAddr (o := 1) Tryz.underlying52 rfl rfl sz27 rfl) ?_; refine tl_u rfl (o_stU (l' := gcs (some d31) (some h73) none none none none n) rfl (by repeat (first | with_reducible exact upd_here | with_reducible exact upd_pt | apply upd_left)) sz27 rfl rfl (by show 1 < 7; decide) rfl) ?_; refine nq ?_; refine sr ?_; refine tlm ?_; refine tlm ?_; refine tl_c rfl (o_call bd53 rfl (rFrom_c (n := 258 + 4 * n) (xs := I) (hr := by repeat (first | with_reducible exact rs_sl | apply Rs.left)) (hx := hIl) (hm := by omega) (hmc := hc18) (hb := hIb) (hn := by omega) (hn2 := hs5))) ?_; rintro _ _ ⟨d96, rfl, rfl⟩
                    rw [s14_def]
                    refine tlm ?_; refine tv (o_extract rfl rfl) ?_; refine tv (o_extract rfl rfl) ?_; refine tv (o_nilCheck rfl) ?_; refine tv (o_fieldAddr (o := 3) Tryz.underlying52 rfl rfl sz48 rfl) ?_; refine tl_u rfl (o_stU (l' := gcs (some d31) (some h73) none (some d96) none none n) rfl (by repeat (first | with_reducible exact upd_here | with_reducible exact upd_pt | apply upd_left)) sz48 rfl rfl (by show 3 < 7; decide) rfl) ?_; refine nq ?_; refine sr ?_; refine tlm ?_; refine tv (o_nilCheck rfl) ?_; refine tv (o_fieldAddr (o := 3) Tryz.underlying52 rfl rfl sz48 rfl) ?_; refine tv (o_load p48 rfl (by repeat (first | with_reducible exact has_here | with_reducible exact has_pt | apply has_left)) rfl) ?_; refine tl_c rfl (o_call bd81 rfl (rOpen_ok (s := s14 n I) (r := d96) (p := 128) (q := 16384) (hp := by omega) (hq := by omega) (hok := by omega))) ?_; rintro _ _ ⟨b106, rfl, rfl⟩; refine tlm ?_; refine tv (o_extract rfl rfl) ?_; refine tv (o_extract rfl rfl) ?_; refine tla ?_; refine tla ?_; refine tl_nil ?_
                    refine q_then_n ?_; refine sr ?_; refine tlm ?_; refine tv (o_nilCheck rfl) ?_; refine tv (o_fieldAddr (o := 3) Tryz.underlying52 rfl rfl sz48 rfl) ?_; refine tv (o_load p48 rfl (by repeat (first | with_reducible exact has_here | with_reducible exact has_pt | apply has_left)) rfl) ?_; refine tlm ?_; refine tl_c rfl (o_call bd82 rfl (rNew12_c (r := d96) (lg := b106))) ?_; rintro _ _ ⟨q115, rfl, rfl⟩; refine tlm ?_; refine tv (o_extract rfl rfl) ?_; refine tv (o_extract rfl rfl) ?_; refine tla ?_; refine tla ?_; refine nq ?_; refine sr ?_; refine tlm ?_; refine tlm ?_; refine tlm ?_; refine tv (o_nilCheck rfl) ?_; refine tv (o_fieldAddr (o := 6) Tryz.underlying52 rfl rfl sz3 rfl) ?_; refine tv (o_load p3 rfl (by repeat (first | with_reducible exact has_here | with_reducible exact has_pt | apply has_left)) rfl) ?_; refine tl_c rfl (o_call bd83 rfl (rNew13_c (s := s14 n I) (r := d96) (lg := b106) (q := q115) (at_ := 16512) (n := n) (o := .pointer none) (h64 := by decide) (h1 := by decide) (h2 := by omega) (htop := by omega))) ?_
                    rintro _ _ ⟨l125, h125, rfl, rfl⟩; refine tlm ?_; refine tv (o_extract rfl rfl) ?_; refine tv (o_extract rfl rfl) ?_; refine tv (o_nilCheck rfl) ?_; refine tv (o_fieldAddr (o := 4) Tryz.underlying52 rfl rfl sz49 rfl) ?_; refine tl_u rfl (o_stU (l' := gcs (some d31) (some h73) none (some d96) (some h125) none n) rfl (by repeat (first | with_reducible exact upd_here | with_reducible exact upd_pt | apply upd_left)) sz49 rfl rfl (by show 4 < 7; decide) rfl) ?_; refine nq ?_; refine sr ?_; refine tlm ?_; refine tv (o_nilCheck rfl) ?_; refine tv (o_fieldAddr (o := 4) Tryz.underlying52 rfl rfl sz49 rfl) ?_; refine tv (o_load p49 rfl (by repeat (first | with_reducible exact has_here | with_reducible exact has_pt | apply has_left)) rfl) ?_; refine tlm ?_; refine tl_c rfl (o_call bd84 rfl (rLoad13_c (zs := live) (hd := h125) (q := q115) (at_ := 16512) (n := n) (lv := .slice (some ⟨l125, 0, none⟩) n n) (hA := ct_eq (by repeat (first | with_reducible exact ct_here | apply ct_left))) (hr := by repeat (first | with_reducible exact rs_sl | apply Rs.left)) (hm := rfl) (hnd := hnd) (hz := hlt) (hn := by omega) (hml := by omega))) ?_
                    rintro _ _ ⟨l135, rfl, rfl⟩; refine nq ?_; refine sr ?_; refine tlm ?_; refine tlm ?_; refine tl_c rfl (o_call bd85 rfl (begin14_c (R := A * pt b1 (cl [.int .i64 bl, .slice aL nL cL, .slice aF nF cF] 43) * Sl 1 (.slice a18 (16512 + 256 * n) c18) (16512 + 256 * n) (bys I) * Sl 1 (.slice p18 live.length d18) live.length (ints (natI live)) * Sl 1 (.slice a30 (16512 + 256 * n) c30) (16512 + 256 * n) (bys I) * pt lv73 (mpo .i64 ⟨[], 0⟩) * Sl 1 (.slice a85 live.length c85) live.length (ints (natI live)) * pt l86 (mpo .i64 M86) * Sl 1 (.slice (some ⟨l125, 0, none⟩) n n) n (bos (wasL n [])) * Sl 1 (.slice (some ⟨l135, 0, none⟩) n n) n (bos (wasL n live))) (gx := b27) (n := n) (d := d31) (hd := h73) (lv := l86) (p := p58) (lg := b46) (r := d96) (hr := h125) (q := q115) (lr := b106) (l := .slice (some ⟨l135, 0, none⟩) n n) (s := s14 n I) (hA := by ac_rfl) (hls := hsl) (hst := hsr) (hn := hn2) (ho := hso))) ?_; rintro _ _ ⟨w138, t138, m138, k138, g138, v138, u138, i138, j138, rfl, rfl⟩; refine tla ?_; refine tla ?_; refine nq ?_; refine tc_ret ?_; exact ⟨_, _, res2 rfl rfl rfl, (fun g w h => (Dr.sat (A' := A * pt l86 (mpo .i64 M86) * Sl 1 (.slice (some ⟨l135, 0, none⟩) n n) n (bos (wasL n live)) * pt b27 (cl (gcs (some d31) (some h73) (some w138) (some d96) (some h125) (some v138) n) 52) * (pt h73 (cl (hcs p58 16512 n l86 (some w138)) 210) * TxA t138 p58 b46 d31 m138 128 16384 ⟨[], 0⟩ false (s14 n I) * pt k138 (mpo .i64 ⟨[], 0⟩) * pt g138 (mpo .i64 ⟨[], 0⟩) * pt w138 (cl (wcs h73 t138 k138 g138 0 false) 66)) * (pt h125 (cl [.pointer (some ⟨q115, 0, none⟩), .int .i64 ((16512 : Nat) : Int), .int .i64 ((n : Nat) : Int), .slice (some ⟨l135, 0, none⟩) n n, .pointer (some ⟨v138, 0, none⟩)] 237) * pt q115 (cl [.pointer (some ⟨d96, 0, none⟩), .pointer (some ⟨b106, 0, none⟩), .pointer (some ⟨u138, 0, none⟩)] 235) * pt b106 (cl [.pointer (some ⟨d96, 0, none⟩), .int .i64 ((128 : Nat) : Int), .int .i64 ((16384 : Nat) : Int)] 233) * RDev d96 (s14 n I) * pt u138 (cl [.pointer (some ⟨q115, 0, none⟩), .slice none 0 0, .bool false] 263) * pt v138 (cl [.pointer (some ⟨h125, 0, none⟩), .pointer (some ⟨u138, 0, none⟩), .slice (some ⟨i138, 0, none⟩) n n, .slice (some ⟨j138, 0, none⟩) n n, .bool false] 271) * Sl 1 (.slice (some ⟨i138, 0, none⟩) n n) n (bos (wasL n [])) * Sl 1 (.slice (some ⟨j138, 0, none⟩) n n) n (bos (wasL n [])))) (by repeat (first | with_reducible exact dr_refl | apply dr_keep | apply dr_drop)) g w h).perm (by unfold WkA Y014; dsimp only; ac_rfl)), b27, (⟨h73, w138, t138, p58, b46, d31, m138, l86, k138, g138, 128, 16384, 16512, n⟩ : WkX), M86, d96, h125, q115, b106, v138, u138, i138, j138, l135, rfl, ⟨rfl, rfl, rfl, rfl⟩, hM86, rfl⟩
end Go.Vl

namespace Go.Vl
open Go Go.Proofs
theorem wrL_used (ba : Nat) (L : List Nat) (T : WkT) (s : List Nat) : usedB (wrL ba L T s) = usedB T := by
  obtain ⟨h1, h2, h3⟩ := wrL_tk ba L T s
  funext b; unfold usedB; rw [h1, h2, h3]
theorem wrL_con {ba c : Nat} {sd : DevS} : ∀ (L : List Nat) (T : WkT) (s : List Nat), c ∉ L → (∀ b ∈ L, ba + 256 * b + 256 ≤ (imgS sd).length) → s.length ≤ 248 * L.length → conB (wrL ba L T s) sd ba c = conB T sd ba c
  | [], T, s, _, _, _ => rfl
  | [b], T, s, hc, hr, hs => by
    show conB (T.write ba b (blkS 0 s)) sd ba c = _
    rw [con_write (blkS_len (by simpa using hs)) (hr b (by simp)), if_neg (fun e => hc (by simp [e]))]
  | b :: d :: l, T, s, hc, hr, hs => by
    show conB (wrL ba (d :: l) (T.write ba b (blkS (d + 1) (s.take 248))) (s.drop 248)) sd ba c = _
    simp only [List.length_cons] at hs
    rw [wrL_con (d :: l) _ _ (fun h => hc (List.mem_cons_of_mem _ h)) (fun x hx => hr x (List.mem_cons_of_mem _ hx)) (by rw [List.length_drop, List.length_cons]; omega),
      con_write (blkS_len (List.length_take_le _ _)) (hr b (by simp)), if_neg (fun e => hc (by simp [e]))]
theorem wr_chn {ba : Nat} {sd : DevS} : ∀ (L : List Nat) (T : WkT) (s : List Nat), L.Nodup → (∀ b ∈ L, ba + 256 * b + 256 ≤ (imgS sd).length ∧ b + 1 < 4294967296 ∧ usedB T b = true) → s.length ≤ 248 * L.length → (L ≠ [] → 248 * (L.length - 1) < s.length) →
    Chn (usedB T) (conB (wrL ba L T s) sd ba) (refL L) s L
  | [], T, s, _, _, hs, _ => by
    have : s = [] := List.eq_nil_of_length_eq_zero (by simpa using hs)
    rw [this]; exact .nil
  | [b], T, s, hn, hr, hs, h2 => by
    obtain ⟨r1, r2, r3⟩ := hr b (by simp)
    have h3 := h2 (by simp)
    simp only [List.length_cons, List.length_nil] at hs h3
    have := Chn.cons (u := usedB T) (c := conB (wrL ba [b] T s) sd ba) (b := b) (next := 0) (d := s) (t := []) (l := []) r3 (by
      show conB (T.write ba b (blkS 0 s)) sd ba b = _
      rw [con_write (blkS_len (by omega)) r1, if_pos rfl]) (by omega) (by omega) (.inl rfl) (by decide) .nil
    rw [List.append_nil] at this
    exact this
  | b :: d :: l, T, s, hn, hr, hs, h2 => by
    obtain ⟨r1, r2, r3⟩ := hr b (by simp)
    obtain ⟨r4, r5, r6⟩ := hr d (by simp)
    have h3 := h2 (by simp)
    simp only [List.length_cons] at hs h3
    have hnb : b ∉ d :: l := (List.nodup_cons.1 hn).1
    have ih := wr_chn (ba := ba) (sd := sd) (d :: l) (T.write ba b (blkS (d + 1) (s.take 248))) (s.drop 248) (List.nodup_cons.1 hn).2 (fun x hx => hr x (List.mem_cons_of_mem _ hx)) (by rw [List.length_drop, List.length_cons]; omega) (fun _ => by rw [List.length_drop, List.length_cons]; omega)
    have hl : (s.take 248).length = 248 := by rw [List.length_take]; omega
    have := Chn.cons (u := usedB T) (c := conB (wrL ba (b :: d :: l) T s) sd ba) (b := b) (next := d + 1) (d := s.take 248) (t := s.drop 248) (l := d :: l) r3 (by
      show conB (wrL ba (d :: l) (T.write ba b (blkS (d + 1) (s.take 248))) (s.drop 248)) sd ba b = _
      rw [wrL_con (d :: l) _ _ hnb (fun x hx => (hr x (List.mem_cons_of_mem _ hx)).1) (by rw [List.length_drop, List.length_cons]; omega), con_write (blkS_len (by omega)) r1, if_pos rfl]) (by omega) (by omega) (.inr hl) r5 ih
    rw [List.take_append_drop] at this
    exact this
/-- What Put lays. -/
theorem put_spec {ba n : Nat} {T T2 : WkT} {sd : DevS} {s : List Nat} {ref : Nat} (h : putS ba n T s = (ref, 0, T2)) (hr : ∀ b, b < n → ba + 256 * b + 256 ≤ (imgS sd).length ∧ b + 1 < 4294967296) :
    s.length ≤ 65536 ∧ ref = refL (takeL n (nblk s.length) T).1 ∧ (takeL n (nblk s.length) T).1.length = nblk s.length ∧ (takeL n (nblk s.length) T).2.2 = true ∧ Chn (usedB T2) (conB T2 sd ba) ref s (takeL n (nblk s.length) T).1 ∧
    T2.tk = (fun b => T.tk b || decide (b ∈ (takeL n (nblk s.length) T).1)) ∧ T2.lv = T.lv ∧ T2.gv = T.gv ∧ ∀ c, c ∉ (takeL n (nblk s.length) T).1 → conB T2 sd ba c = conB T sd ba c := by
  unfold putS at h
  by_cases h0 : 65536 < s.length
  · rw [if_pos h0] at h; simp at h
  · rw [if_neg h0] at h
    obtain ⟨q1, q2, q3, q4, q5⟩ := takeL_spec n (nblk s.length) T
    obtain ⟨L, hL⟩ : ∃ L, (takeL n (nblk s.length) T).1 = L := ⟨_, rfl⟩
    rw [hL] at h q1 q2 q3 q4 ⊢
    cases hb : (takeL n (nblk s.length) T).2.2 with
    | false => rw [hb, if_neg (by decide)] at h; simp at h
    | true =>
      rw [hb, if_pos rfl] at h
      simp only [Prod.mk.injEq, true_and] at h
      obtain ⟨rfl, rfl⟩ := h
      have hlen := q4 hb
      obtain ⟨hk1, hk2⟩ := nblk_le s.length
      have htk := wrL_tk ba L (takeL n (nblk s.length) T).2.1 s
      have hu : ∀ b ∈ L, usedB (takeL n (nblk s.length) T).2.1 b = true := fun b hb => by rw [q3]; unfold usedB; simp [hb]
      refine ⟨by omega, rfl, hlen, rfl, ?_, ?_, ?_, ?_, fun c hc => ?_⟩
      · rw [wrL_used]
        exact wr_chn L _ s q1 (fun b hb => ⟨(hr b (q2 b hb).1).1, (hr b (q2 b hb).1).2, hu b hb⟩) (by rw [hlen]; exact hk1) (fun hne => by
          rw [hlen]; refine hk2 (Nat.pos_of_ne_zero fun e => hne (List.eq_nil_of_length_eq_zero ?_)); rw [hlen, e]; rfl)
      · rw [htk.1, q3]
      · rw [htk.2.1, q3]
      · rw [htk.2.2, q3]
      · rw [wrL_con L _ s hc (fun b hb => (hr b (q2 b hb).1).1) (by rw [hlen]; exact hk1), q3]; rfl
theorem give_tk {T : WkT} : ∀ (L : List Nat), (∀ b ∈ L, T.tk b = true) → L.Nodup → L.foldl WkT.give T = { T with tk := fun c => T.tk c && decide (c ∉ L) }
  | [], _, _ => by simp
  | b :: l, h, hn => by
    rw [List.foldl_cons]
    have hb := h b (by simp)
    have e : T.give b = { T with tk := updG T.tk b false } := by unfold WkT.give; rw [if_pos hb]
    have hnb := (List.nodup_cons.1 hn).1
    rw [e, give_tk (T := { T with tk := updG T.tk b false }) l (fun c hc => by
      show updG T.tk b false c = true
      unfold updG; rw [if_neg (show ¬ c = b from fun e9 => hnb (e9 ▸ hc))]; exact h c (List.mem_cons_of_mem _ hc)) (List.nodup_cons.1 hn).2]
    congr 1
    funext c
    show (updG T.tk b false c && decide (c ∉ l)) = _
    unfold updG
    by_cases hc : c = b
    · simp [hc]
    · simp [hc]
theorem wh_unused {u : Nat → Bool} {c : Nat → List Nat} {ref : Nat} (hr : ref ≠ 0) (h : u (ref - 1) = false) : whS u c ref = ([], [], 140) := by
  have hl : lnkS u c ref = ((0, [], 140), 0) := by unfold lnkS; rw [if_neg (fun h9 => by rw [h] at h9; exact absurd h9.2 (by decide))]
  unfold whS whL
  have : chL (lnkS u c) 65538 ref 0 = [(0, [], 140)] := by
    conv => lhs; unfold chL
    rw [if_neg hr, hl]; rfl
  rw [this]; rfl
theorem adZ_none {n : Nat} {g : Nat → Bool} (h : ∀ b, b < n → g b = false) : adZ n g = [] := by
  unfold adZ adS
  rw [List.filter_eq_nil_iff.2 fun b hb => by rw [h b (List.mem_range.1 hb)]; decide]; rfl
theorem con_give' (T : WkT) (s : DevS) (ba : Nat) : ∀ (L : List Nat), conB (L.foldl WkT.give T) s ba = conB T s ba := fun L => by
  induction L generalizing T with
  | nil => rfl
  | cons b l ih => rw [List.foldl_cons, ih, con_give]
end Go.Vl

namespace Go.Vl
open Go Go.Proofs
def s0 (n : Nat) : DevS := s14 n (List.replicate (16512 + 256 * n) 0)
theorem s0_def (n : Nat) : s14 n (List.replicate (16512 + 256 * n) 0) = s0 n := rfl
theorem nB_n {n : Nat} (h : 1 ≤ n ∧ n ≤ 60) : nB (n : Int) = n := by
  unfold nB
  rw [IntWalk.i64_in _ (by omega)]; omega
theorem s0_ls (n : Nat) : (s0 n).ls.length * 64 = 16512 + 256 * n := s14_ls _ _
theorem s0_off (n : Nat) : (s0 n).off = false := rfl
theorem im0_ok {n : Nat} (hn : 0 < n) : ImOk n (List.replicate (16512 + 256 * n) 0, []) := by
  have := imF_ok (n := n) (fs := []) hn (by simp) []
  rwa [imF_nil] at this
theorem s0_img {n : Nat} (hn : 0 < n) : (imgS (s0 n)).length = 16512 + 256 * n := by
  have h := s14_img (im0_ok hn)
  have e : imgS (s0 n) = List.replicate (16512 + 256 * n) 0 := h
  rw [e, List.length_replicate]
theorem wkb0 {X : WkX} {n : Nat} (h1 : X.n = n) (h2 : X.ba = 16512) (hn : n ≤ 60) : WkB X (s0 n) := by
  have := s0_ls n
  exact ⟨by omega, by omega, by omega⟩
theorem rows_nil {A : SP} : RsRows A none [] := ⟨[], rfl, rs_none, fun i h => absurd h (Nat.not_lt_zero i)⟩
theorem o_sadd {P : Program} {n : Nat} {ρ : Env} {A : SP} {dst : Option Tmp} {ty : TypeId} {pos : String} {after : Array Edge} {gd : Option (Nat × Bool)} {t t' : TypeId} {x y : Operand} {a b : ByteArray} (hx : ev n ρ x = .string a) (hy : ev n ρ y = .string b) (hsz : a.size + b.size ≤ 9223372036854775807) :
    OpV P n ρ A ⟨dst, .binOp .add t x y t', ty, pos, after, gd⟩ (.string (a ++ b)) :=
  opv_of fun w => by
  simp only [execOp, hx, hy]
  rw [run_bind (w' := w) (a := .string (a ++ b))]
  · rfl
  rw [run_bind (w' := w) (a := ())]
  · simp [binOp, Op.stringOp, pure]; omega
  · rfl
/-- The text of the statements' example. -/
def awS : ByteArray := sob (List.replicate 250 0) ++ ⟨#[101, 110, 100]⟩
theorem awS_size : awS.size = 253 := by decide +kernel
theorem aw_len : (sbys awS).length = 253 := by rw [sbys_len, awS_size]
theorem aw_put : (putS 16512 6 (T014 []) (sbys awS)).1 = 1 ∧ (putS 16512 6 (T014 []) (sbys awS)).2.1 = 0 := by decide +kernel
theorem aw_take : (takeL 6 2 (T014 [])).1 = [0, 1] := by decide +kernel
theorem s0_in {n b : Nat} (hn : 0 < n) (hb : b < n) (hn2 : n ≤ 60) : 16512 + 256 * b + 256 ≤ (imgS (s0 n)).length ∧ b + 1 < 4294967296 := by rw [s0_img hn]; omega
theorem aw_all {ref : Nat} {e : Int} {T2 : WkT} (h : putS 16512 6 (T014 []) (sbys awS) = (ref, e, T2)) : ref = 1 ∧ e = 0 ∧ Chn (usedB T2) (conB T2 (s0 6) 16512) 1 (sbys awS) [0, 1] ∧ T2.tk = (fun b => decide (b ∈ [0, 1])) ∧ T2.lv = g0 := by
  obtain ⟨h1, h2⟩ := aw_put
  rw [h] at h1 h2
  obtain rfl : ref = 1 := h1
  obtain rfl : e = 0 := h2
  have := put_spec (sd := s0 6) h (fun b hb => s0_in (by decide) hb (by decide))
  rw [aw_len, show nblk 253 = 2 by decide, aw_take] at this
  obtain ⟨_, _, _, _, q1, q2, q3, q4, q5⟩ := this
  refine ⟨rfl, rfl, q1, ?_, ?_⟩
  · rw [q2]; funext b; simp [T014, g0]
  · rw [q3]; exact onL_nil
attribute [local irreducible] crk crL crc Sl pt ro Dev imgS recS readS recsF rdW rdO rkT Parts rvl recordsS runsL adrF kcl xcl kys runA runsF layF ovF TxA adZ WkA SlB blkS conB imF RDev s14 s0 wasL putS whS takeL
theorem plain_c {A : SP} {n : Nat} (hn : 1 ≤ n ∧ n ≤ 60 := by decide) :
    Fn Tryz.prog 14 #[.int .i64 ((n : Nat) : Int)] (A) (fun v B => ∃ X Y, v = .tuple #[.pointer (some ⟨X.h, 0, none⟩), .pointer (some ⟨X.w, 0, none⟩), .bool true] ∧ (X.n = n ∧ X.ba = 16512) ∧ WkOk X Y (T014 []) ((s0 n).ls.length * 64) ∧ B = A * WkA X Y (s0 n)) := by
  refine fn_enterW (args := [.int .i64 ((n : Nat) : Int)]) Tryz.func14 rfl Tryz.ntmps14 (by simp) ?_; refine sr ?_; refine tla ?_; refine tla ?_; refine tla ?_; refine nq ?_; refine sr ?_; refine tlm ?_; refine tv (o_bS (l := [.int .i64 ((n : Nat) : Int), .slice none 0 0, .slice none 0 0]) (pv_cons (by conv => lhs; whnf) pv_nil) Tryz.underlying43 z43 (pl43 Tryz.underlying43) rfl) ?_; refine tl_c rfl (o_call bd21 rfl (laid_c (bl := ((n : Nat) : Int)) (ls := []) (fs := []) (n := n) (hn := nB_n hn) (hI := imF_nil n []) (hbl := by omega) (hrL := rs_none) (hlL := rfl) (hLb := by omega) (hrF := rows_nil) (hlF := rfl) (hFb := by omega) (hfb := by intro f hf; cases hf))) ?_; rintro _ _ ⟨gx10, X10, M10, r10, hr10, q10, lr10, w10, t10, i10, j10, l10, rfl, hX10, hM10, rfl⟩
  rw [s0_def]
  refine tlm ?_; refine tv (o_extract rfl rfl) ?_; refine tv (o_extract rfl rfl) ?_; refine tla ?_; refine tla ?_; refine nq ?_; refine tc_seq ?_; refine sr ?_; refine tlm ?_; refine tv (o_not rfl) ?_; refine tlm ?_; refine tl_bool (d := 15) rfl (fun h => ?_) (fun h => ?_)
  · exfalso; simp at h
  · try simp only [lv1, lv2, lv3, lv4, lv5, lv6, Bool.not_true, Bool.not_false] at h
    refine tlm ?_; refine tv (o_nilCheck rfl) ?_; refine tv (o_fieldAddr (o := 2) Tryz.underlying52 rfl rfl sz28 rfl) ?_; refine tv (o_load p28 rfl (by repeat (first | with_reducible exact has_here | with_reducible exact has_pt | apply has_left)) rfl) ?_; refine tv (o_eqp Tryz.underlying28 rfl rfl) ?_; refine tv (o_pick_f rfl (by conv => lhs; whnf)) ?_; refine nq ?_; refine tc_cond rfl (fun h => ?_) (fun h => ?_)
    · exfalso; simp at h
    · try simp only [lv1, lv2, lv3, lv4, lv5, lv6, Bool.not_true, Bool.not_false] at h
      refine tc_skip ?_; refine q_then_n ?_; refine tc_seq ?_; refine tc_regq mo (by kernel_rfl) ?_; refine ql_v rfl (o_move (by conv => lhs; whnf)) ?_; refine ql_v rfl (o_nilCheck rfl) ?_; refine ql_v rfl (o_fieldAddr (o := 1) Tryz.underlying52 rfl rfl sz27 rfl) ?_; refine ql_v rfl (o_load p27 rfl (by repeat (first | with_reducible exact has_here | with_reducible exact has_pt | apply has_left)) rfl) ?_; refine ql_v rfl (o_move (by conv => lhs; whnf)) ?_; refine ql_v rfl (o_nilCheck rfl) ?_; refine ql_v rfl (o_fieldAddr (o := 2) Tryz.underlying52 rfl rfl sz28 rfl) ?_; refine ql_v rfl (o_load p28 rfl (by repeat (first | with_reducible exact has_here | with_reducible exact has_pt | apply has_left)) rfl) ?_; refine ql_v rfl (o_assign (by conv => lhs; whnf)) ?_; refine ql_v rfl (o_assign (by conv => lhs; whnf)) ?_; refine ql_v rfl (o_assign (by conv => lhs; whnf)) ?_; refine ql_nil ?_; refine q_then_n ?_; refine tc_ret ?_
      obtain ⟨hx1, hx2, _, _⟩ := hX10
      exact ⟨.tuple #[.pointer (some ⟨X10.h, 0, none⟩), .pointer (some ⟨X10.w, 0, none⟩), .bool true], A * WkA X10 (Y014 M10) (s0 n), res3 rfl rfl rfl rfl, Dr.sat (by repeat (first | with_reducible exact dr_refl | apply dr_keep | apply dr_drop)), X10, Y014 M10, rfl, ⟨hx1, hx2⟩, wk014 (by rw [hx1]; exact hM10), rfl⟩
set_option maxRecDepth 20000 in
set_option maxHeartbeats 1000000 in
theorem awake14_c {A : SP} :
    Fn Tryz.prog 13 #[] (A) (fun v B => v = .bool true ∧ A = B) := by
  refine fn_enterW (args := []) Tryz.func13 rfl Tryz.ntmps13 (by simp) ?_; refine sr ?_; refine tla ?_; refine nq ?_; refine sr ?_; refine tl_c rfl (o_call bd14 rfl (plain_c (n := 6))) ?_; rintro _ _ ⟨X, Y, rfl, ⟨hXn, hXb⟩, hok, rfl⟩
  have hbk := wkb0 hXn hXb (by decide)
  have hso := s0_off 6
  refine tlm ?_; refine tv (o_extract rfl rfl) ?_; refine tv (o_extract rfl rfl) ?_; refine tv (o_extract rfl rfl) ?_; refine tla ?_; refine tla ?_; refine tla ?_; refine nq ?_; refine tc_seq ?_; refine sr ?_; refine tlm ?_; refine tv (o_not rfl) ?_; refine nq ?_; refine tc_cond rfl (fun h => ?_) (fun h => ?_)
  · exfalso; simp at h
  · try simp only [lv1, lv2, lv3, lv4, lv5, lv6, Bool.not_true, Bool.not_false] at h
    refine tc_skip ?_; refine q_then_n ?_; refine sr ?_; refine tl_x rfl (o_makeSlice (len := 250) (cap := 250) Tryz.underlying57 sz5 by5 z5 rfl rfl rfl (by omega) (by omega) (by omega)) ?_; rintro _ _ ⟨b21, rfl, rfl⟩; refine tl_pre (fun _ _ h => sl_new (k := 1) (n := 250) (cap := 250) (xs := bys (List.replicate (250) 0)) h (by omega) (by simp) (by rw [Nat.mul_one, List.take_of_length_le (by simp)]; unfold bys; rw [List.map_replicate]; rfl)) ?_; refine tv (o_b2s (xs := List.replicate 250 0) Tryz.underlying57 Tryz.underlying5 Tryz.underlying9 rfl rs_sl (by simp) (by decide)) ?_; refine tv (o_sadd rfl rfl (by rw [sobN, List.length_replicate]; decide)) ?_; refine tl_env (d := 23) (v := .string awS) (rfl) ?_; refine tla ?_; refine nq ?_; refine sr ?_; refine tlm ?_; refine tlm ?_; refine tl_c rfl (o_call bd15 rfl (PutB_c (X := X) (Y := Y) (T := T014 []) (s := s0 6) (str := awS) (hok := hok) (hb := hbk) (hsz := by rw [awS_size]; decide))) ?_; rintro _ _ ⟨ref, e, T2, Y2, hput, rfl, hok2, rfl⟩
    rw [hXn, hXb] at hput
    obtain ⟨rfl, rfl, hch, htk, hlv⟩ := aw_all hput
    have hwh := chn_wh hch (by rw [aw_len]; decide)
    rw [← hXb] at hwh
    refine tlm ?_; refine tv (o_extract rfl rfl) ?_; refine tv (o_extract rfl rfl) ?_; refine tla ?_; refine tla ?_; refine nq ?_; refine sr ?_; refine tlm ?_; refine tlm ?_; refine tl_c rfl (o_call bd22 rfl (GetB_c (X := X) (Y := Y2) (T := T2) (s := s0 6) (ref := 1) (hok := hok2) (hb := hbk) (hr1 := by decide))) ?_; rintro _ _ ⟨t33, l33, e33, hw33, rfl, rfl⟩
    rw [hwh] at hw33
    obtain ⟨rfl, rfl, rfl⟩ : t33 = sbys awS ∧ l33 = [0, 1] ∧ e33 = 0 := by simpa [eq_comm] using hw33
    refine tlm ?_; refine tv (o_extract rfl rfl) ?_; refine tv (o_extract rfl rfl) ?_; refine tla ?_; refine tla ?_; refine nq ?_; refine sr ?_; refine tlm ?_; refine tlm ?_; refine tl_c rfl (o_call bd23 rfl (BlocksB_c (X := X) (Y := Y2) (T := T2) (s := s0 6) (ref := 1) (hok := hok2) (hb := hbk) (hr1 := by decide))) ?_; rintro _ _ ⟨t39, l39, e39, a39, n39, c39, hw39, rfl, hlc39, rfl⟩
    rw [hwh] at hw39
    obtain ⟨rfl, rfl, rfl⟩ : t39 = sbys awS ∧ l39 = [0, 1] ∧ e39 = 0 := by simpa [eq_comm] using hw39
    obtain ⟨hn39, hc39⟩ := hlc39
    obtain rfl : 2 = n39 := hn39
    refine tlm ?_; refine tv (o_extract rfl rfl) ?_; refine tv (o_extract rfl rfl) ?_; refine tla ?_; refine tla ?_; refine nq ?_; refine tc_seq ?_; refine sr ?_; refine tlm ?_; refine tv (o_nei rfl rfl) ?_; refine tlm ?_; refine tl_bool (d := 44) rfl (fun h => ?_) (fun h => ?_)
    · exfalso; simp at h
    · try simp only [lv1, lv2, lv3, lv4, lv5, lv6, Bool.not_true, Bool.not_false] at h
      refine tlm ?_; refine tv (o_nei rfl rfl) ?_; refine tv (o_pick_f rfl (by conv => lhs; whnf)) ?_; refine tlm ?_; refine tl_bool (d := 48) rfl (fun h => ?_) (fun h => ?_)
      · exfalso; simp at h
      · try simp only [lv1, lv2, lv3, lv4, lv5, lv6, Bool.not_true, Bool.not_false] at h
        refine tlm ?_; refine tv (o_nei rfl rfl) ?_; refine tv (o_pick_f rfl (by conv => lhs; whnf)) ?_; refine tlm ?_; refine tl_bool (d := 52) rfl (fun h => ?_) (fun h => ?_)
        · exfalso; simp at h
        · try simp only [lv1, lv2, lv3, lv4, lv5, lv6, Bool.not_true, Bool.not_false] at h
          refine tlm ?_; refine tlm ?_; refine tv (o_nestrB rfl rfl) ?_; refine tl_env (d := 55) (v := .bool false) (congrArg Value.bool (decide_eq_false (fun h9 => h9 (sbys_inj.2 (sobB sbys_lt))))) ?_; refine tv (o_pick_f rfl (by conv => lhs; whnf)) ?_; refine tlm ?_; refine tl_bool (d := 57) rfl (fun h => ?_) (fun h => ?_)
          · exfalso; simp at h
          · try simp only [lv1, lv2, lv3, lv4, lv5, lv6, Bool.not_true, Bool.not_false] at h
            refine tlm ?_; refine tv (o_nei rfl rfl) ?_; refine tv (o_pick_f rfl (by conv => lhs; whnf)) ?_; refine tlm ?_; refine tl_bool (d := 61) rfl (fun h => ?_) (fun h => ?_)
            · exfalso; simp at h
            · try simp only [lv1, lv2, lv3, lv4, lv5, lv6, Bool.not_true, Bool.not_false] at h
              refine tlm ?_; refine tl_x rfl (o_buildSliceL (k := 1) (vs := ints [0, 1]) (l := ints [0, 1]) Tryz.underlying26 sz3 z3 rfl rfl (by decide) (by decide) (by intro v hv; simp only [ints, i64, List.map_cons, List.map_nil, List.mem_cons, List.not_mem_nil, or_false] at hv; rcases hv with rfl | rfl <;> rfl) rfl) ?_; rintro _ _ ⟨b63, rfl, rfl⟩; refine tl_c rfl (o_call bd68 rfl (EqInts_c (xs := natI [0, 1]) (ys := [0, 1]) (h1 := by repeat (first | with_reducible exact rs_sl | apply Rs.left)) (h2 := show Rs _ _ (ints [0, 1]) from by repeat (first | exact rs_pt rfl | apply Rs.left)) (hx := rfl) (hy := rfl))) ?_; rintro _ _ ⟨rfl, rfl⟩; refine tl_env (d := 64) (v := .bool true) (rfl) ?_; refine tv (o_not rfl) ?_; refine tv (o_pick_f rfl (by conv => lhs; whnf)) ?_; refine tlm ?_; refine tl_bool (d := 67) rfl (fun h => ?_) (fun h => ?_)
              · exfalso; simp at h
              · try simp only [lv1, lv2, lv3, lv4, lv5, lv6, Bool.not_true, Bool.not_false] at h
                refine tl_c rfl (o_call bd11 rfl (NeedB_c (n := 253))) ?_; rintro _ _ ⟨rfl, rfl⟩; refine tl_env (d := 68) (v := .int .i64 2) (by show Value.int .i64 ((nblk 253 : Nat) : Int) = _; rw [show nblk 253 = 2 by decide]; rfl) ?_; refine tv (o_nei rfl rfl) ?_; refine tv (o_pick_f rfl (by conv => lhs; whnf)) ?_; refine nq ?_; refine tc_cond rfl (fun h => ?_) (fun h => ?_)
                · exfalso; simp at h
                · try simp only [lv1, lv2, lv3, lv4, lv5, lv6, Bool.not_true, Bool.not_false] at h
                  refine tc_skip ?_; refine q_then_n ?_; refine sr ?_; refine tlm ?_; refine tlm ?_; refine tl_c rfl (o_call bd17 rfl (DropB_c (X := X) (Y := Y2) (T := T2) (s := s0 6) (ref := 1) (hok := hok2) (hb := hbk) (hr1 := by decide))) ?_; rintro _ _ ⟨t73, l73, e73, Y73, hw73, rfl, hok73, rfl⟩
                  rw [hwh] at hw73
                  obtain ⟨rfl, rfl, rfl⟩ : t73 = sbys awS ∧ l73 = [0, 1] ∧ e73 = 0 := by simpa [eq_comm] using hw73
                  obtain ⟨T3, hT3⟩ : ∃ T3, [0, 1].foldl WkT.give T2 = T3 := ⟨_, rfl⟩
                  rw [hT3] at hok73
                  have hT4 : T3 = { T2 with tk := fun c => T2.tk c && decide (c ∉ [0, 1]) } := by rw [← hT3]; exact give_tk [0, 1] (by rw [htk]; decide) (by decide)
                  have htk3 : ∀ b, T3.tk b = false := fun b => by rw [hT4, htk]; simp; omega
                  have hu3 : usedB T3 0 = false := by unfold usedB; rw [htk3, show T3.lv = g0 by rw [hT4]; exact hlv]; rfl
                  have hwh3 : whS (usedB T3) (conB T3 (s0 6) X.ba) 1 = ([], [], 140) := wh_unused (by decide) hu3
                  refine tla ?_; refine nq ?_; refine sr ?_; refine tlm ?_; refine tlm ?_; refine tl_c rfl (o_call bd22 rfl (GetB_c (X := X) (Y := Y73) (T := T3) (s := s0 6) (ref := 1) (hok := hok73) (hb := hbk) (hr1 := by decide))) ?_; rintro _ _ ⟨t77, l77, e77, hw77, rfl, rfl⟩
                  rw [hwh3] at hw77
                  obtain ⟨rfl, rfl, rfl⟩ : t77 = [] ∧ l77 = [] ∧ e77 = 140 := by simpa [eq_comm] using hw77
                  refine tlm ?_; refine tv (o_extract rfl rfl) ?_; refine tv (o_extract rfl rfl) ?_; refine tla ?_; refine tla ?_; refine nq ?_; refine sr ?_; refine tlm ?_; refine tv (o_eqi rfl rfl) ?_; refine tlm ?_; refine tl_bool (d := 82) rfl (fun h => ?_) (fun h => ?_)
                  · try simp only [lv1, lv2, lv3, lv4, lv5, lv6, Bool.not_true, Bool.not_false] at h
                    refine tlm ?_; refine tv (o_eqi rfl rfl) ?_; refine tv (o_pick_t rfl (by conv => lhs; whnf)) ?_; refine tlm ?_; refine tl_bool (d := 86) rfl (fun h => ?_) (fun h => ?_)
                    · try simp only [lv1, lv2, lv3, lv4, lv5, lv6, Bool.not_true, Bool.not_false] at h
                      refine tlm ?_; refine tl_c rfl (o_call bd19 rfl (Taken13_c (X := X) (Y := Y73) (T := T3) (s := s0 6) (hok := hok73) (hb := hbk))) ?_; rintro _ _ ⟨a88, c88, rfl, hc88, rfl⟩; refine tl_env (d := 88) (v := .slice a88 0 c88) (by rw [adZ_none fun b _ => htk3 b]; rfl) ?_; refine tv (o_len Tryz.underlying26 rfl) ?_; refine tv (o_eqi rfl rfl) ?_; refine tv (o_pick_t rfl (by conv => lhs; whnf)) ?_; refine tla ?_; refine nq ?_; refine tc_ret ?_; exact ⟨.bool true, A, res1 rfl rfl, Dr.sat (by repeat (first | with_reducible exact dr_refl | apply dr_keep | apply dr_drop)), rfl, rfl⟩
                    · exfalso; simp at h
                  · exfalso; simp at h
end Go.Vl

namespace Go.Vl
open Go Go.Proofs
theorem adZ_list {n : Nat} {l : List Nat} (h : l.Nodup) (hl : ∀ b ∈ l, b < n) : (adZ n (fun c => decide (c ∈ l))).length = l.length := by
  rw [adZ_len]
  refine List.Perm.length_eq ?_; refine (List.perm_ext_iff_of_nodup ((adS_sorted n _).imp Nat.ne_of_lt) h).2 fun a => ?_
  rw [adS_mem]
  constructor
  · rintro ⟨_, h2⟩; exact of_decide_eq_true h2
  · intro h2; exact ⟨hl a h2, decide_eq_true h2⟩
attribute [local irreducible] crk crL crc Sl pt ro Dev imgS recS readS recsF rdW rdO rkT Parts rvl recordsS runsL adrF kcl xcl kys runA runsF layF ovF TxA adZ WkA SlB blkS conB imF RDev s14 s0 wasL putS whS takeL
end Go.Vl

namespace Go.Vl
open Go Go.Proofs
/-- Rows of bytes. -/
def PRowsB (A : SP) (cs : List Value) (fs : List (List Nat)) : Prop := ∃ a cap, cs = [.slice a fs.length cap] ∧ fs.length ≤ 140737488351232 ∧ RsRows A a fs ∧ ∀ f ∈ fs, ∀ x ∈ f, x < 256
/-- A base. -/
structure Bs14 where
  bl : Int
  ls : List Int
  fs : List (List Nat)
def PBase (A : SP) (cs : List Value) (t : Bs14) : Prop := ∃ v1 v2, cs = [.int .i64 t.bl, v1, v2] ∧ (-9223372036854775808 ≤ t.bl ∧ t.bl ≤ 9223372036854775807) ∧ PInts A [v1] t.ls ∧ PRowsB A [v2] t.fs
end Go.Vl

namespace Go.Vl
open Go Go.Proofs
/-- A work that is not there, or over: its error. -/
def BadW (A : SP) (v : Value) (e : Int) : Prop := (v = .pointer none ∧ e = 1) ∨ (∃ w, v = .pointer (some ⟨w, 0, none⟩) ∧ Has A w (cl [.pointer none, .pointer none, .map none, .map none, .int .i64 0, .bool false] 66) ∧ e = 1) ∨ ∃ w h t tk gv ls, v = .pointer (some ⟨w, 0, none⟩) ∧ Has A w (cl (wcs h t tk gv ls true) 66) ∧ e = 3
theorem BadW.left {A X : SP} {v : Value} {e : Int} (h : BadW A v e) : BadW (A * X) v e := by
  rcases h with h | ⟨w, h1, h2, h3⟩ | ⟨w, a, b, c, d, f, h1, h2, h3⟩
  · exact .inl h
  · exact .inr (.inl ⟨w, h1, has_left h2, h3⟩)
  · exact .inr (.inr ⟨w, a, b, c, d, f, h1, has_left h2, h3⟩)
theorem BadW.ne {A : SP} {v : Value} {e : Int} (h : BadW A v e) : e ≠ 0 := by
  rcases h with ⟨_, h⟩ | ⟨w, h1, h2, h⟩ | ⟨w, a, b, c, d, f, h1, h2, h⟩ <;> omega
attribute [local irreducible] crk crL crc Sl pt ro Dev imgS recS readS recsF rdW rdO rkT Parts rvl recordsS runsL adrF kcl xcl kys runA runsF layF ovF TxA adZ WkA SlB blkS conB imF RDev s14 s0 wasL putS whS takeL
namespace Rg
end Rg
end Go.Vl

namespace Go.Vl
open Go Go.Proofs
theorem adZ_full {n : Nat} {g : Nat → Bool} (h : ∀ b, b < n → g b = true) : (adZ n g).length = n := by
  rw [adZ_len]; unfold adS
  rw [List.filter_eq_self.2 fun b hb => h b (List.mem_range.1 hb), List.length_range]
attribute [local irreducible] crk crL crc Sl pt ro Dev imgS recS readS recsF rdW rdO rkT Parts rvl recordsS runsL adrF kcl xcl kys runA runsF layF ovF TxA adZ WkA SlB blkS conB imF RDev s14 s0 wasL putS whS takeL
end Go.Vl

namespace Go.Vl
open Go Go.Proofs
theorem adZ_nat (n : Nat) (g : Nat → Bool) : adZ n g = natI (adS n g) := rfl
/-- A text that was laid: its reference, itself, its blocks. -/
structure E14 where
  ref : Nat
  s : ByteArray
  l : List Nat
def blsE (E : List E14) : List Nat := E.flatMap (·.l)
def refV (E : List E14) : List Value := E.map fun e => .int .u32 ((e.ref : Nat) : Int)
def strV (E : List E14) : List Value := E.map fun e => .string e.s
theorem refV_len (E : List E14) : (refV E).length = E.length := by simp [refV]
theorem strV_len (E : List E14) : (strV E).length = E.length := by simp [strV]
theorem refV_at {E : List E14} {i : Nat} (h : i < E.length) : (refV E)[i]? = some (.int .u32 ((E[i].ref : Nat) : Int)) := by unfold refV; rw [List.getElem?_map, List.getElem?_eq_getElem h]; rfl
theorem strV_at {E : List E14} {i : Nat} (h : i < E.length) : (strV E)[i]? = some (.string E[i].s) := by unfold strV; rw [List.getElem?_map, List.getElem?_eq_getElem h]; rfl
theorem blsE_snoc {E : List E14} {i : Nat} (h : i < E.length) : blsE (E.take (i + 1)) = blsE (E.take i) ++ E[i].l := by
  unfold blsE; rw [List.take_succ_eq_append_getElem h, List.flatMap_append]; simp
theorem blsE_nil : blsE [] = [] := rfl
/-- What is laid in a work. -/
structure BBk (T : WkT) (c : Nat → List Nat) (E : List E14) : Prop where
  chn : ∀ e ∈ E, Chn (usedB T) c e.ref (sbys e.s) e.l
  sz : ∀ e ∈ E, e.s.size ≤ 65536
  nd : (blsE E).Nodup
  tk : ∀ b, T.tk b = true ↔ b ∈ blsE E
  lv : T.lv = g0
  gv : T.gv = g0
theorem BBk.tkF {T : WkT} {c : Nat → List Nat} {E : List E14} (h : BBk T c E) : T.tk = fun b => decide (b ∈ blsE E) := by
  funext b
  rw [Bool.eq_iff_iff, h.tk b]; simp
theorem bls_pre {E : List E14} {i j : Nat} (h : (blsE E).Nodup) (hi : i < E.length) (hj : j < E[i].l.length) : E[i].l[j] ∉ blsE (E.take i) ++ E[i].l.take j := fun hm => by
  have e : blsE E = blsE (E.take i) ++ (E[i].l ++ blsE (E.drop (i + 1))) := by
    conv => lhs; rw [← List.take_append_drop i E, List.drop_eq_getElem_cons hi]
    unfold blsE; rw [List.flatMap_append, List.flatMap_cons]
  rw [e] at h
  obtain ⟨h1, h2, h3⟩ := List.nodup_append.1 h
  rcases List.mem_append.1 hm with h4 | h4
  · exact h3 _ h4 _ (List.mem_append_left _ (List.getElem_mem hj)) rfl
  · have h5 := (List.nodup_append.1 h2).1
    obtain ⟨k, hk, e2⟩ := List.mem_iff_getElem.1 h4
    rw [List.length_take] at hk
    rw [List.getElem_take] at e2
    exact List.pairwise_iff_getElem.1 h5 k j (by omega) hj (by omega) e2
theorem len_pre {E : List E14} {i j : Nat} (h : (blsE E).Nodup) (hl : ∀ b ∈ blsE E, b < 60) (hi : i < E.length) (hj : j ≤ E[i].l.length) : (blsE (E.take i)).length + j ≤ 60 := by
  have e : blsE E = blsE (E.take i) ++ (E[i].l ++ blsE (E.drop (i + 1))) := by
    conv => lhs; rw [← List.take_append_drop i E, List.drop_eq_getElem_cons hi]
    unfold blsE; rw [List.flatMap_append, List.flatMap_cons]
  have := nodup_le h hl
  rw [e, List.length_append, List.length_append] at this
  omega
attribute [local irreducible] crk crL crc Sl pt ro Dev imgS recS readS recsF rdW rdO rkT Parts rvl recordsS runsL adrF kcl xcl kys runA runsF layF ovF TxA adZ WkA SlB blkS conB imF RDev s14 s0 wasL putS whS takeL blsE
set_option maxRecDepth 20000 in
set_option maxHeartbeats 1000000 in
theorem told_c {A R : SP} {C : SP → SP} {X : WkX} {Y : WkY} {T : WkT} {s : DevS} (hc : Ct A (WkA X Y s) R C := by repeat (first | with_reducible exact ct_here | apply ct_left)) (hok : WkOk X Y T (s.ls.length * 64)) (hb : WkB X s) (ho : s.off = false := by assumption) {E : List E14} {aR aS : Option Addr} {cR cS m u : Nat} (hX : X.n = 60) (hB : BBk T (conB T s X.ba) E) (hrR : Rs R aR (refV E)) (hrS : Rs R aS (strV E)) (hm : E.length = m) (hm9 : m ≤ 10) (hu : (blsE E).length = u) :
    Fn Tryz.prog 18 #[.pointer (some ⟨X.w, 0, none⟩), .slice aR m cR, .slice aS m cS, .int .i64 ((u : Nat) : Int)] (A) (fun v B => v = .bool true ∧ A = B) := by
  refine fn_enterW (args := [.pointer (some ⟨X.w, 0, none⟩), .slice aR m cR, .slice aS m cS, .int .i64 ((u : Nat) : Int)]) Tryz.func18 rfl Tryz.ntmps18 (by simp) ?_
  obtain ⟨hb1, hb2, hb3⟩ := id hb
  obtain ⟨rfl, hC⟩ := hc
  have hl60 : ∀ b ∈ blsE E, b < 60 := fun b hb => by rw [← hX]; exact used_n hok (used_of ((hB.tk b).2 hb))
  have hu60 := nodup_le hB.nd hl60
  refine sr ?_; refine tla ?_; refine nq ?_; refine sr ?_; refine tl_x rfl (o_makeSlice (len := 60) (cap := 60) Tryz.underlying146 sz4 by4 z4 rfl rfl rfl (by omega) (by omega) (by omega)) ?_; rintro _ _ ⟨b19, rfl, rfl⟩; refine tl_pre (fun _ _ h => pt_bos h) ?_; refine tla ?_; refine nq ?_; refine sr ?_; refine tla ?_; refine nq ?_; refine tc_seq ?_; refine sr ?_; refine tla ?_; refine nq ?_; refine tc_block ?_; refine tc_loop (fun kk ρ BB => ∃ (i : Nat), (i ≤ m) ∧ kk = m - i ∧ ρ 10 = .int .i64 (((blsE (E.take i)).length : Nat) : Int) ∧ ρ 11 = .int .i64 ((i : Nat) : Int) ∧ ρ 0 = .pointer (some ⟨X.w, 0, none⟩) ∧ ρ 1 = .slice aR m cR ∧ ρ 2 = .slice aS m cS ∧ ρ 3 = .int .i64 ((u : Nat) : Int) ∧ ρ 9 = .slice (some ⟨b19, 0, none⟩) 60 60 ∧ Dr BB (R * WkA X Y s * Sl 1 (.slice (some ⟨b19, 0, none⟩) 60 60) 60 (bos (wasL 60 (blsE (E.take i)))))) (m := m - (0)) ?_ ?_
  · exact ⟨0, by omega, rfl, (by rw [List.take_zero, blsE_nil]; rfl), rfl, rfl, rfl, rfl, rfl, rfl, (by rw [List.take_zero, blsE_nil]; repeat (first | with_reducible exact dr_refl | apply dr_keep | apply dr_drop))⟩
  · intro k ρ B hI
    obtain ⟨i, hp0, hkk1, hE10, hE11, hE0, hE1, hE2, hE3, hE9, hBA⟩ := hI
    refine tc_pre hBA.sat ?_
    clear hBA
    refine tc_env (d := 10) hE10 ?_; refine tc_env (d := 11) hE11 ?_; refine tc_env (d := 0) hE0 ?_; refine tc_env (d := 1) hE1 ?_; refine tc_env (d := 2) hE2 ?_; refine tc_env (d := 3) hE3 ?_; refine tc_env (d := 9) hE9 ?_
    clear hE10 hE11 hE0 hE1 hE2 hE3 hE9
    refine tc_seq ?_; refine sr ?_; refine tlm ?_; refine tlm ?_; refine tv (o_len Tryz.underlying31 rfl) ?_; refine tv (o_lss rfl rfl) ?_; refine nq ?_; refine tc_cond rfl (fun h => ?_) (fun h => ?_)
    · have hi : i < E.length := by first | omega | (simp at h; omega)
      obtain ⟨e, he⟩ : ∃ e, E[i] = e := ⟨_, rfl⟩
      have hem : e ∈ E := he ▸ List.getElem_mem hi
      have hch := hB.chn e hem
      have hsz := hB.sz e hem
      have hsl := sbys_len e.s
      have hwh := chn_wh hch (by omega)
      have hsn := blsE_snoc hi
      rw [he] at hsn
      have hln : e.l.length ≤ 60 := nodup_le (chn_nodup hch) (fun b hb => by rw [← hX]; exact used_n hok (chn_used hch b hb))
      have hrf : e.ref < 4294967296 := by
          obtain ⟨r1, r2, r3⟩ := chn_ref hch
          rcases Nat.eq_zero_or_pos e.ref with h9 | h9
          · omega
          · obtain ⟨b, l2, hb9⟩ := List.exists_cons_of_ne_nil (fun h8 => Nat.pos_iff_ne_zero.1 h9 (r2.2 h8))
            have h7 := r3 b (by rw [hb9]; rfl)
            have h6 := used_n hok (chn_used hch b (by rw [hb9]; exact List.mem_cons_self ..))
            omega
      have hne := chn_need hch
      refine tc_skip ?_; refine q_then_n ?_; refine tc_seq ?_; refine tc_block ?_; refine sr ?_; refine tlm ?_; refine tlm ?_; refine tlm ?_; refine tv (o_ixP1 (a := aR) (j := i) Tryz.underlying31 sz32 rfl rfl (by omega) (nn_rs (xs := refV E) (by repeat (first | exact hrR | apply Rs.left)) (by rw [refV_len]; omega))) ?_; refine tv (o_ldP (a := aR) (xs := refV E) p32 rfl (by repeat (first | exact hrR | apply Rs.left)) (refV_at hi)) ?_; refine tl_env (d := 31) (v := .int .u32 ((e.ref : Nat) : Int)) (by show Value.int .u32 ((E[i].ref : Nat) : Int) = _; rw [he]) ?_; refine tl_c rfl (o_call bd22 rfl (GetB_c (X := X) (Y := Y) (T := T) (s := s) (ref := e.ref) (hok := hok) (hb := hb) (hr1 := hrf))) ?_; rintro _ _ ⟨t32, l32, e32, hw32, rfl, rfl⟩
      rw [hwh] at hw32
      obtain ⟨rfl, rfl, rfl⟩ : sbys e.s = t32 ∧ e.l = l32 ∧ 0 = e32 := by simpa using hw32
      refine tlm ?_; refine tv (o_extract rfl rfl) ?_; refine tv (o_extract rfl rfl) ?_; refine tla ?_; refine tla ?_; refine nq ?_; refine sr ?_; refine tlm ?_; refine tlm ?_; refine tlm ?_; refine tv (o_ixP1 (a := aR) (j := i) Tryz.underlying31 sz32 rfl rfl (by omega) (nn_rs (xs := refV E) (by repeat (first | exact hrR | apply Rs.left)) (by rw [refV_len]; omega))) ?_; refine tv (o_ldP (a := aR) (xs := refV E) p32 rfl (by repeat (first | exact hrR | apply Rs.left)) (refV_at hi)) ?_; refine tl_env (d := 40) (v := .int .u32 ((e.ref : Nat) : Int)) (by show Value.int .u32 ((E[i].ref : Nat) : Int) = _; rw [he]) ?_; refine tl_c rfl (o_call bd23 rfl (BlocksB_c (X := X) (Y := Y) (T := T) (s := s) (ref := e.ref) (hok := hok) (hb := hb) (hr1 := hrf))) ?_; rintro _ _ ⟨t41, l41, e41, a41, n41, c41, hw41, rfl, hlc41, rfl⟩
      rw [hwh] at hw41
      obtain ⟨rfl, rfl, rfl⟩ : sbys e.s = t41 ∧ e.l = l41 ∧ 0 = e41 := by simpa using hw41
      obtain ⟨hn41, hc41⟩ := hlc41
      refine tlm ?_; refine tv (o_extract rfl rfl) ?_; refine tv (o_extract rfl rfl) ?_; refine tla ?_; refine tla ?_; refine nq ?_; refine tc_seq ?_; refine sr ?_; refine tlm ?_; refine tv (o_nei rfl rfl) ?_; refine tlm ?_; refine tl_bool (d := 46) rfl (fun h => ?_) (fun h => ?_)
      · exfalso; simp at h
      · try simp only [lv1, lv2, lv3, lv4, lv5, lv6, Bool.not_true, Bool.not_false] at h
        refine tlm ?_; refine tv (o_nei rfl rfl) ?_; refine tv (o_pick_f rfl (by conv => lhs; whnf)) ?_; refine tlm ?_; refine tl_bool (d := 50) rfl (fun h => ?_) (fun h => ?_)
        · exfalso; simp at h
        · try simp only [lv1, lv2, lv3, lv4, lv5, lv6, Bool.not_true, Bool.not_false] at h
          refine tlm ?_; refine tlm ?_; refine tlm ?_; refine tv (o_ixP1 (a := aS) (j := i) Tryz.underlying25 sz9 rfl rfl (by omega) (nn_rs (xs := strV E) (by repeat (first | exact hrS | apply Rs.left)) (by rw [strV_len]; omega))) ?_; refine tv (o_ldP (a := aS) (xs := strV E) p9 rfl (by repeat (first | exact hrS | apply Rs.left)) (strV_at hi)) ?_; refine tl_env (d := 55) (v := .string e.s) (by show Value.string E[i].s = _; rw [he]) ?_; refine tv (o_nestrB rfl rfl) ?_; refine tl_env (d := 56) (v := .bool false) (congrArg Value.bool (decide_eq_false (fun h9 => h9 (sbys_inj.2 (sobB sbys_lt))))) ?_; refine tv (o_pick_f rfl (by conv => lhs; whnf)) ?_; refine tlm ?_; refine tl_bool (d := 58) rfl (fun h => ?_) (fun h => ?_)
          · exfalso; simp at h
          · try simp only [lv1, lv2, lv3, lv4, lv5, lv6, Bool.not_true, Bool.not_false] at h
            refine tlm ?_; refine tv (o_len Tryz.underlying26 rfl) ?_; refine tlm ?_; refine tv (o_lenS Tryz.underlying9 rfl) ?_; refine tl_env (d := 62) (v := .int .i64 ((e.s.size : Nat) : Int)) (by show Value.int .i64 (((sob (sbys e.s)).size : Nat) : Int) = _; rw [sobN, hsl]) ?_; refine tl_c rfl (o_call bd11 rfl (NeedB_c (n := ((e.s.size : Nat) : Int)))) ?_; rintro _ _ ⟨rfl, rfl⟩; refine tl_env (d := 63) (v := .int .i64 ((n41 : Nat) : Int)) (by show Value.int .i64 ((nblk ((e.s.size : Nat) : Int).toNat : Nat) : Int) = _; rw [Int.toNat_natCast, ← hsl, ← hne, hn41]) ?_; refine tv (o_nei rfl rfl) ?_; refine tv (o_pick_f rfl (by conv => lhs; whnf)) ?_; refine nq ?_; refine tc_cond rfl (fun h => ?_) (fun h => ?_)
            · exfalso; simp at h
            · try simp only [lv1, lv2, lv3, lv4, lv5, lv6, Bool.not_true, Bool.not_false] at h
              refine tc_skip ?_; refine q_then_n ?_; refine sr ?_; refine tla ?_; refine nq ?_; refine tc_block ?_; refine tc_loop (fun kk ρ BB => ∃ (j : Nat), (j ≤ n41) ∧ kk = n41 - j ∧ ρ 10 = .int .i64 (((blsE (E.take i)).length + j : Nat) : Int) ∧ ρ 16 = .int .i64 ((j : Nat) : Int) ∧ ρ 0 = .pointer (some ⟨X.w, 0, none⟩) ∧ ρ 1 = .slice aR m cR ∧ ρ 2 = .slice aS m cS ∧ ρ 3 = .int .i64 ((u : Nat) : Int) ∧ ρ 9 = .slice (some ⟨b19, 0, none⟩) 60 60 ∧ ρ 11 = .int .i64 ((i : Nat) : Int) ∧ ρ 14 = .slice a41 n41 c41 ∧ Dr BB (R * WkA X Y s * Sl 1 (.slice (some ⟨b19, 0, none⟩) 60 60) 60 (bos (wasL 60 (blsE (E.take i) ++ e.l.take j))) * Sl 1 (.slice a41 n41 c41) n41 (ints (natI e.l)))) (m := n41 - (0)) ?_ ?_
              · exact ⟨0, by omega, rfl, rfl, rfl, rfl, rfl, rfl, rfl, rfl, rfl, rfl, (by rw [List.take_zero, List.append_nil]; repeat (first | with_reducible exact dr_refl | apply dr_keep | apply dr_drop))⟩
              · intro k ρ B hI
                obtain ⟨j, hq0, hkk2, hE10, hE16, hE0, hE1, hE2, hE3, hE9, hE11, hE14, hBA⟩ := hI
                refine tc_pre hBA.sat ?_
                clear hBA
                refine tc_env (d := 10) hE10 ?_; refine tc_env (d := 16) hE16 ?_; refine tc_env (d := 0) hE0 ?_; refine tc_env (d := 1) hE1 ?_; refine tc_env (d := 2) hE2 ?_; refine tc_env (d := 3) hE3 ?_; refine tc_env (d := 9) hE9 ?_; refine tc_env (d := 11) hE11 ?_; refine tc_env (d := 14) hE14 ?_
                clear hE10 hE16 hE0 hE1 hE2 hE3 hE9 hE11 hE14
                refine tc_seq ?_; refine sr ?_; refine tlm ?_; refine tlm ?_; refine tv (o_len Tryz.underlying26 rfl) ?_; refine tv (o_lss rfl rfl) ?_; refine nq ?_; refine tc_cond rfl (fun h => ?_) (fun h => ?_)
                · have hj : j < e.l.length := by first | omega | (simp at h; omega)
                  obtain ⟨x, hx⟩ : ∃ x, e.l[j] = x := ⟨_, rfl⟩
                  have hx60 : x < 60 := by rw [← hX]; exact used_n hok (chn_used hch x (hx ▸ List.getElem_mem hj))
                  have hxn : x ∉ blsE (E.take i) ++ e.l.take j := by have h9 := bls_pre hB.nd hi (j := j) (by rw [he]; exact hj); simp only [he] at h9; rw [hx] at h9; exact h9
                  have htk2 : blsE (E.take i) ++ e.l.take (j + 1) = blsE (E.take i) ++ e.l.take j ++ [x] := by rw [List.take_succ_eq_append_getElem hj, hx, List.append_assoc]
                  have hlp := len_pre hB.nd hl60 hi (j := j + 1) (by rw [he]; omega)
                  refine tc_skip ?_; refine q_then_n ?_; refine tc_seq ?_; refine tc_block ?_; refine tc_seq ?_; refine sr ?_; refine tlm ?_; refine tlm ?_; refine tv (o_ixP1 (a := a41) (j := j) Tryz.underlying26 sz3 rfl rfl (by omega) (nn_rs (xs := ints (natI e.l)) (by repeat (first | with_reducible exact rs_sl | apply Rs.left)) (by rw [ints_length, natI_len]; omega))) ?_; refine tv (o_ldP (a := a41) (xs := ints (natI e.l)) p3 rfl (by repeat (first | with_reducible exact rs_sl | apply Rs.left)) (natI_at hj)) ?_; refine tl_env (d := 75) (v := .int .i64 ((x : Nat) : Int)) (congrArg (fun z : Nat => Value.int .i64 (z : Int)) hx) ?_; refine tv (o_lss rfl rfl) ?_; refine tlm ?_; refine tl_bool (d := 77) rfl (fun h => ?_) (fun h => ?_)
                  · exfalso; first | (simp at h; done) | (simp at h; omega)
                  · try simp only [lv1, lv2, lv3, lv4, lv5, lv6, Bool.not_true, Bool.not_false] at h
                    refine tlm ?_; refine tlm ?_; refine tv (o_ixP1 (a := a41) (j := j) Tryz.underlying26 sz3 rfl rfl (by omega) (nn_rs (xs := ints (natI e.l)) (by repeat (first | with_reducible exact rs_sl | apply Rs.left)) (by rw [ints_length, natI_len]; omega))) ?_; refine tv (o_ldP (a := a41) (xs := ints (natI e.l)) p3 rfl (by repeat (first | with_reducible exact rs_sl | apply Rs.left)) (natI_at hj)) ?_; refine tl_env (d := 81) (v := .int .i64 ((x : Nat) : Int)) (congrArg (fun z : Nat => Value.int .i64 (z : Int)) hx) ?_; refine tv (o_geq rfl rfl) ?_; refine tv (o_pick_f rfl (by conv => lhs; whnf)) ?_; refine tlm ?_; refine tl_bool (d := 84) rfl (fun h => ?_) (fun h => ?_)
                    · exfalso; first | (simp at h; done) | (simp at h; omega)
                    · try simp only [lv1, lv2, lv3, lv4, lv5, lv6, Bool.not_true, Bool.not_false] at h
                      refine tlm ?_; refine tlm ?_; refine tlm ?_; refine tv (o_ixP1 (a := a41) (j := j) Tryz.underlying26 sz3 rfl rfl (by omega) (nn_rs (xs := ints (natI e.l)) (by repeat (first | with_reducible exact rs_sl | apply Rs.left)) (by rw [ints_length, natI_len]; omega))) ?_; refine tv (o_ldP (a := a41) (xs := ints (natI e.l)) p3 rfl (by repeat (first | with_reducible exact rs_sl | apply Rs.left)) (natI_at hj)) ?_; refine tl_env (d := 89) (v := .int .i64 ((x : Nat) : Int)) (congrArg (fun z : Nat => Value.int .i64 (z : Int)) hx) ?_; refine tv (o_ixP1 (j := x) Tryz.underlying146 sz4 rfl rfl (by omega) (nn_rs (xs := bos (wasL 60 (blsE (E.take i) ++ e.l.take j))) (by repeat (first | with_reducible exact rs_sl | apply Rs.left)) (by rw [bos_length, wasL_len]; omega))) ?_; refine tv (o_ldP (xs := bos (wasL 60 (blsE (E.take i) ++ e.l.take j))) p4 rfl (by repeat (first | with_reducible exact rs_sl | apply Rs.left)) (wasL_at hx60)) ?_; refine tl_env (d := 91) (v := .bool false) (congrArg Value.bool (decide_eq_false hxn)) ?_; refine tv (o_pick_f rfl (by conv => lhs; whnf)) ?_; refine nq ?_; refine tc_cond rfl (fun h => ?_) (fun h => ?_)
                      · exfalso; simp at h
                      · try simp only [lv1, lv2, lv3, lv4, lv5, lv6, Bool.not_true, Bool.not_false] at h
                        refine tc_skip ?_; refine q_then_n ?_; refine sr ?_; refine tlm ?_; refine tlm ?_; refine tlm ?_; refine tv (o_ixP1 (a := a41) (j := j) Tryz.underlying26 sz3 rfl rfl (by omega) (nn_rs (xs := ints (natI e.l)) (by repeat (first | with_reducible exact rs_sl | apply Rs.left)) (by rw [ints_length, natI_len]; omega))) ?_; refine tv (o_ldP (a := a41) (xs := ints (natI e.l)) p3 rfl (by repeat (first | with_reducible exact rs_sl | apply Rs.left)) (natI_at hj)) ?_; refine tl_env (d := 97) (v := .int .i64 ((x : Nat) : Int)) (congrArg (fun z : Nat => Value.int .i64 (z : Int)) hx) ?_; refine tv (o_ixP1 (j := x) Tryz.underlying146 sz4 rfl rfl (by omega) (nn_rs (xs := bos (wasL 60 (blsE (E.take i) ++ e.l.take j))) (by repeat (first | with_reducible exact rs_sl | apply Rs.left)) (by rw [bos_length, wasL_len]; omega))) ?_; refine tl_u rfl (o_stP (ys := bos (wasL 60 (blsE (E.take i) ++ e.l.take (j + 1)))) sz4 rfl rfl rfl (by repeat (first | with_reducible exact ct_here | apply ct_left)) (by omega) (by rw [htk2]; exact wasL_set hx60)) ?_; refine nq ?_; refine tc_reg ?_; refine tlm ?_; refine tv (by first | exact o_addI rfl rfl (by omega) | exact o_add rfl rfl) ?_
                        refine tla ?_; refine tl_nil ?_; refine q_block_n (q_then_n ?_); refine tc_reg ?_; refine tlm ?_; refine tv (by first | exact o_addI rfl rfl (by omega) | exact o_add rfl rfl) ?_; refine tla ?_; refine nq ?_; exact ⟨_, by omega, j + 1, by omega, rfl, rfl, rfl, rfl, rfl, rfl, rfl, rfl, rfl, rfl, (by repeat (first | with_reducible exact dr_refl | apply dr_keep | apply dr_drop))⟩
                · obtain rfl : j = n41 := by first | omega | (simp at h; omega)
                  have hsn2 : (blsE (E.take (i + 1))).length = (blsE (E.take i)).length + j := by rw [hsn, List.length_append]; omega
                  rw [List.take_of_length_le (show e.l.length ≤ j by omega)]
                  refine tc_exit ?_; refine q_then_e (q_then_e (q_block_x (q_block_n (q_then_n ?_)))); refine tc_reg ?_; refine tlm ?_; refine tv (by first | exact o_addI rfl rfl (by omega) | exact o_add rfl rfl) ?_; refine tla ?_; refine nq ?_; exact ⟨_, by omega, i + 1, by omega, rfl, (by rw [hsn2]; rfl), rfl, rfl, rfl, rfl, rfl, rfl, (by rw [hsn]; repeat (first | with_reducible exact dr_refl | apply dr_keep | apply dr_drop))⟩
    · obtain rfl : i = m := by first | omega | (simp at h; omega)
      rw [List.take_of_length_le (show E.length ≤ i by omega), hu]
      refine tc_exit ?_; refine q_then_e (q_then_e (q_block_x (q_then_n ?_))); refine sr ?_; refine tlm ?_; refine tl_c rfl (o_call bd19 rfl (Taken13_c (X := X) (Y := Y) (T := T) (s := s) (hok := hok) (hb := hb))) ?_; rintro _ _ ⟨a102, c102, rfl, hc102, rfl⟩
      obtain ⟨zs, hzs⟩ : ∃ zs, adS X.n T.tk = zs := ⟨_, rfl⟩
      have hzz : adZ X.n T.tk = natI zs := by rw [← hzs]; exact adZ_nat _ _
      have hzl : zs.length = u := by have h9 := adZ_list (n := 60) hB.nd hl60; rw [← hB.tkF, ← hX, hzz, natI_len] at h9; omega
      have hzm : ∀ x ∈ zs, x < 60 ∧ x ∈ blsE E := fun x hx => by rw [← hzs] at hx; have h9 := adS_mem.1 hx; exact ⟨by omega, (hB.tk x).1 h9.2⟩
      rw [hzz, natI_len, hzl] at hc102
      rw [hzz, natI_len, hzl]
      refine tla ?_; refine nq ?_; refine tc_seq ?_; refine sr ?_; refine tlm ?_; refine tlm ?_; refine tv (o_nei rfl rfl) ?_; refine tlm ?_; refine tl_bool (d := 106) rfl (fun h => ?_) (fun h => ?_)
      · exfalso; simp at h
      · try simp only [lv1, lv2, lv3, lv4, lv5, lv6, Bool.not_true, Bool.not_false] at h
        refine tlm ?_; refine tv (o_len Tryz.underlying26 rfl) ?_; refine tlm ?_; refine tv (o_nei rfl rfl) ?_; refine tv (o_pick_f rfl (by conv => lhs; whnf)) ?_; refine nq ?_; refine tc_cond rfl (fun h => ?_) (fun h => ?_)
        · exfalso; simp at h
        · try simp only [lv1, lv2, lv3, lv4, lv5, lv6, Bool.not_true, Bool.not_false] at h
          refine tc_skip ?_; refine q_then_n ?_; refine tc_seq ?_; refine sr ?_; refine tla ?_; refine nq ?_; refine tc_block ?_; refine tc_loop (fun kk ρ BB => ∃ (k3 : Nat), (k3 ≤ u) ∧ kk = u - k3 ∧ ρ 18 = .int .i64 ((k3 : Nat) : Int) ∧ ρ 9 = .slice (some ⟨b19, 0, none⟩) 60 60 ∧ ρ 17 = .slice a102 u c102 ∧ Dr BB (R * WkA X Y s * Sl 1 (.slice (some ⟨b19, 0, none⟩) 60 60) 60 (bos (wasL 60 (blsE E))) * Sl 1 (.slice a102 u c102) u (ints (natI zs)))) (m := u - (0)) ?_ ?_
          · exact ⟨0, by omega, rfl, rfl, rfl, rfl, (by repeat (first | with_reducible exact dr_refl | apply dr_keep | apply dr_drop))⟩
          · intro k ρ B hI
            obtain ⟨k3, hq0, hkk3, hE18, hE9, hE17, hBA⟩ := hI
            refine tc_pre hBA.sat ?_
            clear hBA
            refine tc_env (d := 18) hE18 ?_; refine tc_env (d := 9) hE9 ?_; refine tc_env (d := 17) hE17 ?_
            clear hE18 hE9 hE17
            refine tc_seq ?_; refine sr ?_; refine tlm ?_; refine tlm ?_; refine tv (o_len Tryz.underlying26 rfl) ?_; refine tv (o_lss rfl rfl) ?_; refine nq ?_; refine tc_cond rfl (fun h => ?_) (fun h => ?_)
            · have hj : k3 < zs.length := by first | omega | (simp at h; omega)
              obtain ⟨x, hx⟩ : ∃ x, zs[k3] = x := ⟨_, rfl⟩
              obtain ⟨hx60, hxm⟩ := hzm x (hx ▸ List.getElem_mem hj)
              refine tc_skip ?_; refine q_then_n ?_; refine tc_seq ?_; refine tc_block ?_; refine sr ?_; refine tlm ?_; refine tlm ?_; refine tv (o_ixP1 (a := a102) (j := k3) Tryz.underlying26 sz3 rfl rfl (by omega) (nn_rs (xs := ints (natI zs)) (by repeat (first | with_reducible exact rs_sl | apply Rs.left)) (by rw [ints_length, natI_len]; omega))) ?_; refine tv (o_ldP (a := a102) (xs := ints (natI zs)) p3 rfl (by repeat (first | with_reducible exact rs_sl | apply Rs.left)) (natI_at hj)) ?_; refine tl_env (d := 121) (v := .int .i64 ((x : Nat) : Int)) (congrArg (fun z : Nat => Value.int .i64 (z : Int)) hx) ?_; refine tv (o_lss rfl rfl) ?_; refine tlm ?_; refine tl_bool (d := 123) rfl (fun h => ?_) (fun h => ?_)
              · exfalso; first | (simp at h; done) | (simp at h; omega)
              · try simp only [lv1, lv2, lv3, lv4, lv5, lv6, Bool.not_true, Bool.not_false] at h
                refine tlm ?_; refine tlm ?_; refine tv (o_ixP1 (a := a102) (j := k3) Tryz.underlying26 sz3 rfl rfl (by omega) (nn_rs (xs := ints (natI zs)) (by repeat (first | with_reducible exact rs_sl | apply Rs.left)) (by rw [ints_length, natI_len]; omega))) ?_; refine tv (o_ldP (a := a102) (xs := ints (natI zs)) p3 rfl (by repeat (first | with_reducible exact rs_sl | apply Rs.left)) (natI_at hj)) ?_; refine tl_env (d := 127) (v := .int .i64 ((x : Nat) : Int)) (congrArg (fun z : Nat => Value.int .i64 (z : Int)) hx) ?_; refine tv (o_geq rfl rfl) ?_; refine tv (o_pick_f rfl (by conv => lhs; whnf)) ?_; refine tlm ?_; refine tl_bool (d := 130) rfl (fun h => ?_) (fun h => ?_)
                · exfalso; first | (simp at h; done) | (simp at h; omega)
                · try simp only [lv1, lv2, lv3, lv4, lv5, lv6, Bool.not_true, Bool.not_false] at h
                  refine tlm ?_; refine tlm ?_; refine tlm ?_; refine tv (o_ixP1 (a := a102) (j := k3) Tryz.underlying26 sz3 rfl rfl (by omega) (nn_rs (xs := ints (natI zs)) (by repeat (first | with_reducible exact rs_sl | apply Rs.left)) (by rw [ints_length, natI_len]; omega))) ?_; refine tv (o_ldP (a := a102) (xs := ints (natI zs)) p3 rfl (by repeat (first | with_reducible exact rs_sl | apply Rs.left)) (natI_at hj)) ?_; refine tl_env (d := 135) (v := .int .i64 ((x : Nat) : Int)) (congrArg (fun z : Nat => Value.int .i64 (z : Int)) hx) ?_; refine tv (o_ixP1 (j := x) Tryz.underlying146 sz4 rfl rfl (by omega) (nn_rs (xs := bos (wasL 60 (blsE E))) (by repeat (first | with_reducible exact rs_sl | apply Rs.left)) (by rw [bos_length, wasL_len]; omega))) ?_; refine tv (o_ldP (xs := bos (wasL 60 (blsE E))) p4 rfl (by repeat (first | with_reducible exact rs_sl | apply Rs.left)) (wasL_at hx60)) ?_; refine tl_env (d := 137) (v := .bool true) (congrArg Value.bool (decide_eq_true hxm)) ?_; refine tv (o_not rfl) ?_; refine tv (o_pick_f rfl (by conv => lhs; whnf)) ?_; refine nq ?_; refine tc_cond rfl (fun h => ?_) (fun h => ?_)
                  · exfalso; simp at h
                  · try simp only [lv1, lv2, lv3, lv4, lv5, lv6, Bool.not_true, Bool.not_false] at h
                    refine tc_skip ?_; refine q_block_n (q_then_n ?_); refine tc_reg ?_; refine tlm ?_; refine tv (by first | exact o_addI rfl rfl (by omega) | exact o_add rfl rfl) ?_; refine tla ?_; refine nq ?_; exact ⟨_, by omega, k3 + 1, by omega, rfl, rfl, rfl, rfl, (by repeat (first | with_reducible exact dr_refl | apply dr_keep | apply dr_drop))⟩
            · try simp only [lv1, lv2, lv3, lv4, lv5, lv6, Bool.not_true, Bool.not_false] at h
              refine tc_exit ?_; refine q_then_e (q_then_e (q_block_x (q_then_n ?_))); refine sr ?_; refine tla ?_; refine nq ?_; refine tc_ret ?_; exact ⟨.bool true, _, res1 rfl rfl, Dr.sat (by repeat (first | with_reducible exact dr_refl | apply dr_keep | apply dr_drop)), rfl, rfl⟩
end Go.Vl

namespace Go.Vl
open Go Go.Proofs
theorem bb_nil (c : Nat → List Nat) : BBk (T014 []) c [] := ⟨fun e h => (by cases h), fun e h => (by cases h), List.nodup_nil, fun b => (by simp [T014, g0, blsE]), onL_nil, rfl⟩
theorem blsE_app (E F : List E14) : blsE (E ++ F) = blsE E ++ blsE F := by unfold blsE; rw [List.flatMap_append]
theorem blsE_one (e : E14) : blsE [e] = e.l := by simp [blsE]
theorem bb_put {ba n ref : Nat} {T T2 : WkT} {sd : DevS} {E : List E14} {str : ByteArray} (hB : BBk T (conB T sd ba) E) (h : putS ba n T (sbys str) = (ref, 0, T2)) (hr : ∀ b, b < n → ba + 256 * b + 256 ≤ (imgS sd).length ∧ b + 1 < 4294967296) :
    ∃ L, L.length = nblk str.size ∧ BBk T2 (conB T2 sd ba) (E ++ [⟨ref, str, L⟩]) ∧ (ref = 0 ↔ sbys str = []) := by
  obtain ⟨p1, p2, p3, p4, p5, p6, p7, p8, p9⟩ := put_spec h hr
  rw [sbys_len] at p1 p2 p3 p4 p5 p6 p9
  obtain ⟨q1, q2, _, _, _⟩ := takeL_spec n (nblk str.size) T
  obtain ⟨L, hL⟩ : ∃ L, (takeL n (nblk str.size) T).1 = L := ⟨_, rfl⟩
  rw [hL] at p2 p3 p5 p6 p9 q1 q2
  have hfree : ∀ b ∈ L, b ∉ blsE E := fun b hb hm => by
    have h1 := (q2 b hb).2
    unfold freeB at h1
    rw [(hB.tk b).2 hm] at h1; simp at h1
  refine ⟨L, p3, ⟨fun e he => ?_, fun e he => ?_, ?_, fun b => ?_, p7.trans hB.lv, p8.trans hB.gv⟩, (chn_ref p5).1⟩
  · rcases List.mem_append.1 he with h1 | h1
    · refine chn_congr (hB.chn e h1) (fun b hb => ?_) fun b hb => p9 b fun h2 => hfree b h2 (List.mem_flatMap.2 ⟨e, h1, hb⟩)
      unfold usedB
      rw [p6]
      have : T.tk b = true := (hB.tk b).2 (List.mem_flatMap.2 ⟨e, h1, hb⟩)
      simp [this]
    · rw [List.mem_singleton.1 h1]; exact p5
  · rcases List.mem_append.1 he with h1 | h1
    · exact hB.sz e h1
    · rw [List.mem_singleton.1 h1]; exact p1
  · rw [blsE_app, blsE_one]
    exact List.nodup_append.2 ⟨hB.nd, q1, fun a ha b hb e => hfree b hb (e ▸ ha)⟩
  · rw [blsE_app, blsE_one, List.mem_append, ← hB.tk b, p6]; simp
theorem bb_room {ba n ref : Nat} {e : Int} {T T2 : WkT} {c : Nat → List Nat} {E : List E14} {str : ByteArray} (hB : BBk T c E) (h : putS ba n T (sbys str) = (ref, e, T2)) (hs : str.size ≤ 65536) (hu : (blsE E).length + nblk str.size ≤ n) (hl : ∀ b ∈ blsE E, b < n) : e = 0 := by
  obtain ⟨q1, q2, q3, q4, q5⟩ := takeL_spec n (nblk str.size) T
  have hlen := sbys_len str
  cases hb : (takeL n (nblk str.size) T).2.2 with
  | true =>
    have := putS_ok (ba := ba) (n := n) (T := T) (s := sbys str) (L := (takeL n (nblk str.size) T).1) (T1 := (takeL n (nblk str.size) T).2.1) (by omega) (by rw [hlen, ← hb])
    rw [this] at h
    simp only [Prod.mk.injEq] at h
    exact h.2.1.symm
  | false =>
    exfalso
    obtain ⟨h1, h2⟩ := q5 hb
    have hall : ∀ b, b < n → (takeL n (nblk str.size) T).2.1.tk b = true := fun b hb9 => by
      have h3 := leastB_none.1 h1 b hb9
      have h4 : (takeL n (nblk str.size) T).2.1.lv = g0 := by rw [q3]; exact hB.lv
      unfold freeB at h3
      rw [h4] at h3
      cases h5 : (takeL n (nblk str.size) T).2.1.tk b with
      | true => rfl
      | false => rw [h5] at h3; simp [g0] at h3
    have hfull := adZ_full hall
    have htk : (takeL n (nblk str.size) T).2.1.tk = fun b => decide (b ∈ blsE E ++ (takeL n (nblk str.size) T).1) := by
      rw [q3]
      funext b
      show (T.tk b || decide (b ∈ (takeL n (nblk str.size) T).1)) = _
      rw [hB.tkF]
      by_cases h6 : b ∈ blsE E <;> simp [h6]
    have hnd : (blsE E ++ (takeL n (nblk str.size) T).1).Nodup := List.nodup_append.2 ⟨hB.nd, q1, fun a ha b hb9 e9 => by
      have h1 := (q2 b hb9).2
      unfold freeB at h1
      rw [(hB.tk b).2 (e9 ▸ ha)] at h1; simp at h1⟩
    have h7 := adZ_list (n := n) hnd (fun b hb9 => by
      rcases List.mem_append.1 hb9 with h8 | h8
      · exact hl b h8
      · exact (q2 b h8).1)
    rw [← htk, hfull, List.length_append] at h7
    omega
theorem bb_give {ba : Nat} {T : WkT} {sd : DevS} {E F : List E14} {e : E14} (hB : BBk T (conB T sd ba) (E ++ e :: F)) : BBk (e.l.foldl WkT.give T) (conB (e.l.foldl WkT.give T) sd ba) (E ++ F) := by
  have hnd := hB.nd
  have eq1 : blsE (E ++ e :: F) = blsE E ++ (e.l ++ blsE F) := by rw [blsE_app]; simp [blsE]
  rw [eq1] at hnd
  obtain ⟨n1, n2, n3⟩ := List.nodup_append.1 hnd
  obtain ⟨n4, n5, n6⟩ := List.nodup_append.1 n2
  have htk : ∀ b ∈ e.l, T.tk b = true := fun b hb => (hB.tk b).2 (by rw [eq1]; exact List.mem_append_right _ (List.mem_append_left _ hb))
  have hg := give_tk (T := T) e.l htk n4
  have hno : ∀ x ∈ E ++ F, ∀ b ∈ x.l, b ∉ e.l := fun x hx b hb hm => by
    rcases List.mem_append.1 hx with h1 | h1
    · exact n3 b (List.mem_flatMap.2 ⟨x, h1, hb⟩) b (List.mem_append_left _ hm) rfl
    · exact n6 b hm b (List.mem_flatMap.2 ⟨x, h1, hb⟩) rfl
  have hmem : ∀ x ∈ E ++ F, x ∈ E ++ e :: F := fun x hx => by
    rcases List.mem_append.1 hx with h1 | h1
    · exact List.mem_append_left _ h1
    · exact List.mem_append_right _ (List.mem_cons_of_mem _ h1)
  rw [con_give']
  refine ⟨fun x hx => ?_, fun x hx => hB.sz x (hmem x hx), ?_, fun b => ?_, ?_, ?_⟩
  · refine chn_congr (hB.chn x (hmem x hx)) (fun b hb => ?_) fun b hb => rfl
    have h1 : T.tk b = true := (hB.tk b).2 (List.mem_flatMap.2 ⟨x, hmem x hx, hb⟩)
    rw [hg]
    unfold usedB
    simp [h1, hno x hx b hb]
  · rw [blsE_app]
    exact List.nodup_append.2 ⟨n1, n5, fun a ha b hb => n3 a ha b (List.mem_append_right _ hb)⟩
  · rw [hg]
    show (T.tk b && decide (b ∉ e.l)) = true ↔ _
    rw [Bool.and_eq_true, hB.tk b, decide_eq_true_eq, eq1, blsE_app]
    simp only [List.mem_append]
    constructor
    · rintro ⟨h1 | h1 | h1, h2⟩
      · exact .inl h1
      · exact absurd h1 h2
      · exact .inr h1
    · rintro (h1 | h1)
      · exact ⟨.inl h1, fun h2 => n3 b h1 b (List.mem_append_left _ h2) rfl⟩
      · exact ⟨.inr (.inr h1), fun h2 => n6 b h2 b h1 rfl⟩
  · rw [hg]; exact hB.lv
  · rw [hg]; exact hB.gv
def e0E : E14 := ⟨0, ⟨#[]⟩, []⟩
theorem bb_empty {T : WkT} {c : Nat → List Nat} {E F : List E14} (hB : BBk T c (E ++ F)) : BBk T c (E ++ e0E :: F) := by
  have eq1 : blsE (E ++ e0E :: F) = blsE (E ++ F) := by rw [blsE_app, blsE_app]; simp [blsE, e0E]
  have hmem : ∀ x ∈ E ++ e0E :: F, x ∈ E ++ F ∨ x = e0E := fun x hx => by
    rcases List.mem_append.1 hx with h1 | h1
    · exact .inl (List.mem_append_left _ h1)
    · rcases List.mem_cons.1 h1 with h2 | h2
      · exact .inr h2
      · exact .inl (List.mem_append_right _ h2)
  refine ⟨fun x hx => ?_, fun x hx => ?_, by rw [eq1]; exact hB.nd, fun b => by rw [eq1]; exact hB.tk b, hB.lv, hB.gv⟩
  · rcases hmem x hx with h1 | rfl
    · exact hB.chn x h1
    · exact .nil
  · rcases hmem x hx with h1 | rfl
    · exact hB.sz x h1
    · decide
/-- One of them is dropped. -/
theorem bb_drop {ba k : Nat} {T : WkT} {sd : DevS} {E : List E14} (hB : BBk T (conB T sd ba) E) (hk : k < E.length) : BBk (E[k].l.foldl WkT.give T) (conB (E[k].l.foldl WkT.give T) sd ba) (E.set k e0E) ∧ (blsE (E.set k e0E)).length + nblk E[k].s.size = (blsE E).length := by
  have e1 : E = E.take k ++ E[k] :: E.drop (k + 1) := by rw [← List.drop_eq_getElem_cons hk, List.take_append_drop]
  have e2 : E.set k e0E = E.take k ++ e0E :: E.drop (k + 1) := by rw [List.set_eq_take_append_cons_drop, if_pos hk]
  have hne := chn_need (hB.chn E[k] (List.getElem_mem hk))
  rw [sbys_len] at hne
  refine ⟨?_, ?_⟩
  · rw [e2]
    refine bb_empty (bb_give ?_)
    rw [← e1]; exact hB
  · conv => rhs; rw [e1]
    rw [e2, blsE_app, blsE_app, ← hne]
    simp only [blsE, List.flatMap_cons, List.length_append, e0E, List.length_nil]
    omega
theorem refV_snoc (E : List E14) (e : E14) : refV E ++ [.int .u32 ((e.ref : Nat) : Int)] = refV (E ++ [e]) := by simp [refV]
theorem strV_snoc (E : List E14) (e : E14) : strV E ++ [.string e.s] = strV (E ++ [e]) := by simp [strV]
theorem refV_set (E : List E14) (k : Nat) : (refV E).set k (.int .u32 0) = refV (E.set k e0E) := by unfold refV; rw [List.map_set]; rfl
theorem strV_set (E : List E14) (k : Nat) : (strV E).set k (.string ⟨#[]⟩) = strV (E.set k e0E) := by unfold strV; rw [List.map_set]; rfl
theorem str_w (w : ByteArray) : Value.bool (w.toList == (⟨#[]⟩ : ByteArray).toList) = .bool (decide (sbys w = [])) := by
  have e := sbys_inj (a := w) (b := ⟨#[]⟩)
  have e2 : sbys (⟨#[]⟩ : ByteArray) = [] := rfl
  rw [e2] at e
  by_cases h0 : sbys w = []
  · rw [decide_eq_true h0, beq_iff_eq.2 (e.2 h0)]
  · rw [decide_eq_false h0, beq_eq_false_iff_ne.2 fun h9 => h0 (e.1 h9)]
end Go.Vl
