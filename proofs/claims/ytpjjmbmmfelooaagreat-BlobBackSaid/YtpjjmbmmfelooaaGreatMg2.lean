/- What the row rests on, part 2: a calculus of assertions, walks of functions over it, and plain laws. Conditions: none. -/
import Derived.Deep.QuietTactic
import Derived.BigQuiet
import Derived.WalkKit
import Derived.Test.YtpjjmbmmfelooaaGreatProg
import Derived.OrdersHeld
import Derived.Shelf.SortM.SortNone
import Derived.Shelf.SortM.Plain
import Derived.Ground.SlgmProg
import Derived.Shelf.SlIterI.Nil
import Derived.Ground.GgzProg
import Derived.Maps.RangeRun
import Derived.Laws.BytesArg
import Derived.RangeFuncRecord
import Derived.TacticsIn
import Derived.Deep.Slices
import Derived.OpenShut
import Derived.ChangeArms
import Derived.SizedLaws
import Derived.ChangeSame
import Derived.Test.YtpjjmbmmfelooaaGreatRows
import Derived.Sort.QuietThIn
import Derived.ScopeJumps
import Derived.LaidEqlPtr
import Derived.Lib.Builder
import Derived.Lib.UnsafeStr
import Derived.Laws.Strings
import Derived.Test.YtpjjmbmmfelooaaGreatMg1
set_option linter.unusedVariables false
set_option linter.unusedSimpArgs false
namespace Go.Vl
open Go Go.Proofs
/-- The bytes of words. -/
def lb (s : List Nat) : List Nat := s.flatMap (le 8)
theorem lb_length (s : List Nat) : (lb s).length = s.length * 8 := by
  induction s with
  | nil => rfl
  | cons x s ih => simp only [lb, List.flatMap_cons, List.length_append, le_length, List.length_cons] at *; omega
theorem lb_append (a b : List Nat) : lb (a ++ b) = lb a ++ lb b := by simp [lb]
theorem lb_take {s : List Nat} {i : Nat} (h : i < s.length) : lb (s.take (i + 1)) = lb (s.take i) ++ le 8 s[i] := by
  rw [List.take_succ_eq_append_getElem h, lb_append]; simp [lb]
theorem lb_zero : lb (List.replicate 8 0) = List.replicate 64 0 := by decide
theorem wds_eq (s : List Nat) : wds s = (s.map fun n : Nat => (n : Int)).map (Value.int .u64) := by rw [wds, List.map_map]; rfl
theorem map_inj {s t : List Nat} : (s.map fun n : Nat => (n : Int)) = (t.map fun n : Nat => (n : Int)) ↔ s = t := by
  constructor
  · intro h
    exact (List.map_inj_right (fun x y h => by omega)).1 h
  · rintro rfl; rfl
section
variable {P : Program} {n : Nat} {ρ : Env} {dst : Option Nat} {ty : TypeId} {pos : String} {after : Array Edge} {gd : Option (Nat × Bool)} {A : SP}
theorem o_eqarrW {t t' e : TypeId} {x y : Operand} {len : Nat} {xs ys : List Nat} (hu : P.underlying t = some (.array len e)) (hk : szE P e = some 1) (he : P.underlying e = some (.int .u64)) (hp : plainE P e = true)
    (hge : P.eqGuardType P.depth t = false) (hx : ev n ρ x = .agg (wds xs).toArray) (hy : ev n ρ y = .agg (wds ys).toArray) (h1 : xs.length = len) (h2 : ys.length = len) :
    OpV P n ρ A ⟨dst, .binOp .eql t x y t', ty, pos, after, gd⟩ (.bool (decide (xs = ys))) := by
  have := o_eqarr (A := A) (dst := dst) (ty := ty) (pos := pos) (after := after) (gd := gd) (t' := t') hu hk he hp hge (by rw [hx, wds_eq]) (by rw [hy, wds_eq]) (by rw [List.length_map, h1]) (by rw [List.length_map, h2])
  rwa [show decide ((xs.map fun n : Nat => (n : Int)) = (ys.map fun n : Nat => (n : Int))) = decide (xs = ys) from by simp only [map_inj]] at this
end
theorem cells_all {A : SP} {b k : Nat} {l : List Value} {E : TypeId} (h : Has A b (cl l E)) (hk : l.length = k) : Cells A b 0 l := cells_of_has (k := k) h (List.take_of_length_le (by rw [List.drop_zero]; omega))
theorem bytes_f (A : SP) (s : List Nat) (hs8 : s.length = 8) (hw : ∀ x ∈ s, x < 18446744073709551616) :
    Fn Tryz.prog 106 #[.agg (wds s).toArray] (A) (fun r B => ∃ u, r = u ∧ B = A * Sl 1 u 64 (bys (lb s))) := by
  refine fn_enterW (args := [.agg (wds s).toArray]) Tryz.func106 rfl Tryz.ntmps106 (by simp) ?_
  have hwl : (wds s).length = 8 := by rw [wds_length]; exact hs8
  refine sr ?_; refine tl_x rfl (o_box rfl rfl) ?_; rintro _ _ ⟨b1, rfl, rfl⟩; refine tv (o_assign rfl) ?_; refine nq ?_; refine tc_seq ?_; refine sr ?_; refine tv (o_loadNC a176 sz176 rfl hwl (cells_all (by repeat (first | exact has_here | exact has_pt | apply has_left)) hwl)) ?_; refine tv (o_buildA (vs := []) Tryz.underlying176 sz174 z176 rfl rfl rfl (Nat.zero_le _) rfl) ?_; refine tv (o_eqarrW (xs := s) (ys := List.replicate 8 0) Tryz.underlying176 sz174 Tryz.underlying174 p174 (by kernel_rfl) rfl rfl hs8 rfl) ?_; refine nq ?_; refine tc_cond rfl (fun h => ?_) (fun h => ?_)
  · try simp only [lv1, lv2, lv3, lv4, lv5, lv6, Bool.not_true, Bool.not_false] at h
    refine sr ?_; refine tl_x rfl (o_makeSliceI Tryz.underlying57 sz5 by5 z5 rfl rfl rfl (by omega) (by omega)) ?_; rintro _ _ ⟨b9, rfl, rfl⟩; refine tv (o_assign rfl) ?_; refine nq ?_; refine tc_ret ?_; refine q_then_r ?_; exact ⟨_, _, res1 rfl rfl, fun _ _ hh => (sl_new (k := 1) (n := 64) (cap := 64) hh (by omega) (by simp) (List.take_of_length_le (by simp))).drop2, _, rfl, by rw [h, lb_zero]; rfl⟩
  · try simp only [lv1, lv2, lv3, lv4, lv5, lv6, Bool.not_true, Bool.not_false] at h
    refine tc_skip ?_; refine q_then_n ?_; refine sr ?_; refine tv (o_assign rfl) ?_; refine nq ?_; refine tc_seq ?_; refine sr ?_; refine tv (o_loadNC a176 sz176 rfl hwl (cells_all (by repeat (first | exact has_here | exact has_pt | apply has_left)) hwl)) ?_; refine tl_pre (fun _ _ h => sl_nil (k := 1) h) ?_; refine tv (o_move rfl) ?_; refine nq ?_; refine tc_block ?_; refine tc_loop (fun k ρ B => ∃ (i : Nat) (v : Value), i ≤ 8 ∧ k = 8 - i ∧ ρ 3 = v ∧ ρ 10 = .agg (wds s).toArray ∧ ρ 11 = .int .i64 i ∧ B = A * pt b1 (cl (wds s) 176) * Sl 1 v (lb (s.take i)).length (bys (lb (s.take i)))) (m := 8) ?_ ?_
    · exact ⟨0, .slice none 0 0, by omega, rfl, rfl, rfl, rfl, rfl⟩
    · intro k ρ B hI
      obtain ⟨i, v, hi, rfl, h3, h10, h11, rfl⟩ := hI
      refine tc_env (d := 3) h3 ?_; refine tc_env (d := 10) h10 ?_; refine tc_env (d := 11) h11 ?_; refine sr ?_; refine tv (o_lss rfl rfl) ?_; refine nq ?_; refine tc_seq ?_; refine tc_cond rfl (fun h => ?_) (fun h => ?_)
      · try simp only [lv1, lv2, lv3, lv4, lv5, lv6, Bool.not_true, Bool.not_false] at h
        refine tc_skip ?_; refine q_then_n ?_; refine tc_seq ?_; refine tc_block ?_; refine sr ?_; refine tv (o_index1 (cs := wds s) Tryz.underlying176 sz174 p174 rfl rfl (by omega) (by omega) (wds_at (by omega))) ?_; refine tv (o_assign rfl) ?_; refine nq ?_; refine tc_reg ?_; refine tv (o_move rfl) ?_; refine tv (o_move rfl) ?_; refine tl_have (fun _ _ h => sl_have h) fun ⟨a, c, hv, _, _, hrd⟩ => ?_
        subst hv
        have hi8 : i < s.length := by omega
        refine tl_c rfl (o_call bd169 rfl (Put64_f _ a c (lb (s.take i)) s[i] hrd (hw _ (List.getElem_mem _)) (by rw [lb_length, List.length_take]; omega))) ?_; rintro u16 _ ⟨_, rfl, rfl⟩; refine tl_pre (fun _ _ h => h.drop2) ?_; refine tv (o_assign rfl) ?_; refine tl_nil ?_; refine q_block_n (q_then_n ?_); refine tc_reg ?_; refine tv (by first | exact o_addI rfl rfl (by omega) | exact o_add rfl rfl) ?_; refine tv (o_move rfl) ?_; refine nq ?_; exact ⟨_, by omega, i + 1, u16, by omega, rfl, rfl, rfl, rfl, by rw [lb_take (by omega), List.length_append, le_length]⟩
      · try simp only [lv1, lv2, lv3, lv4, lv5, lv6, Bool.not_true, Bool.not_false] at h
        refine tc_exit ?_; refine q_then_e (q_then_e (q_block_x (q_then_n ?_))); refine sr ?_; refine tv (o_move rfl) ?_; refine tv (o_assign rfl) ?_; refine nq ?_; refine tc_ret ?_
        obtain rfl : i = 8 := by omega
        have e : s.take 8 = s := List.take_of_length_le (by omega)
        rw [e, lb_length, hs8]
        exact ⟨v, _, res1 rfl rfl, fun _ _ h => h.drop2, v, rfl, rfl⟩
end Go.Vl

namespace Go.Vl
open Go Go.Proofs
section
variable {P : Program} {n : Nat} {ρ : Env} {A : SP} {dst : Option Tmp} {ty : TypeId} {pos : String} {after : Array Edge} {gd : Option (Nat × Bool)}
theorem o_quoN {t t' : TypeId} {x y : Operand} {a b : Nat} (hx : ev n ρ x = .int .i64 (a : Int)) (hy : ev n ρ y = .int .i64 (b : Int)) (h : 0 < b ∧ a ≤ 9223372036854775807) :
    OpV P n ρ A ⟨dst, .binOp .quo t x y t', ty, pos, after, gd⟩ (.int .i64 ((a / b : Nat) : Int)) := o_quoI hx hy (by omega)
theorem o_remN {t t' : TypeId} {x y : Operand} {k : IntKind} {a b : Nat} (hx : ev n ρ x = .int k (a : Int)) (hy : ev n ρ y = .int k (b : Int)) (h : 0 < b) :
    OpV P n ρ A ⟨dst, .binOp .rem t x y t', ty, pos, after, gd⟩ (.int k ((a % b : Nat) : Int)) := o_remI hx hy (by omega)
end
/-- What is seen of a line. -/
def seenL (l : LineS) : List Nat := l.st.getD (l.st.length - 1) []
def layL (k v : Nat) (l : LineS) : LineS := { l with st := l.st ++ [(seenL l).set k v] }
def onLine (f : LineS → LineS) (i : Nat) (s : DevS) : DevS := match s.ls[i]? with
  | some l => { s with ls := s.ls.set i (f l) }
  | none => s
def layS (at_ v : Nat) (s : DevS) : DevS := onLine (layL (at_ % 64 / 8) v) (at_ / 64) s
/-- There is room for so many contents more in every line. -/
def Room (k : Nat) (s : DevS) : Prop := ∀ l ∈ s.ls, l.st.length + k ≤ 2199023255552
theorem seenL_eq {l : LineS} (h : 0 < l.st.length) : seenL l = l.st[l.st.length - 1] := by unfold seenL; rw [getD_at (by omega)]
theorem seenL_mem {l : LineS} (h : WfL l) : seenL l ∈ l.st := by
  have := List.length_pos_iff.2 h.ne
  rw [seenL_eq this]; exact List.getElem_mem _
/-- What Store8 answers, and the device behind it. -/
def st8 (p : Int) (v : Nat) (s : DevS) : Int × DevS :=
  if rdy s.ls.length s.off p 8 ≠ 0 then (rdy s.ls.length s.off p 8, s) else if p % 8 ≠ 0 then (6, s) else (doneE (layS p.toNat v s), doneS (layS p.toNat v s))
theorem rdy0 {n : Nat} {off : Bool} {p m : Int} (h : rdy n off p m = 0) : off = false ∧ 0 ≤ p ∧ 0 ≤ m ∧ p + m ≤ (n : Int) * 64 := by
  unfold rdy at h
  split at h
  · exact absurd h (by omega)
  · rename_i ho
    split at h
    · exact absurd h (by omega)
    · exact ⟨by simpa using ho, by omega, by omega, by omega⟩
end Go.Vl

namespace Go.Vl
open Go Go.Proofs
theorem cut_lt {b o c l k : Nat} (h : l < c) : cutAddr (some ⟨b, o, none⟩) c l k = some ⟨b, o + l * k, none⟩ := by
  unfold cutAddr; rw [if_neg (by omega)]; simp [addr_add]
def flushL (l : LineS) : LineS := { l with mark := (l.st.length : Int) - 1 }
def flushS (p : Nat) (s : DevS) : DevS := onLine flushL (p / 64) s
/-- What Flush answers, and the device behind it. -/
def fl1 (p : Int) (s : DevS) : Int × DevS :=
  if rdy s.ls.length s.off p 1 ≠ 0 then (rdy s.ls.length s.off p 1, s) else (doneE (flushS p.toNat s), doneS (flushS p.toNat s))
/-- The first lines are changed. -/
def mp (f : LineS → LineS) (i : Nat) (ls : List LineS) : List LineS := ls.mapIdx fun j l => if j < i then f l else l
theorem mp_length (f i ls) : (mp f i ls).length = ls.length := by simp [mp]
theorem mp_zero (f) (ls : List LineS) : mp f 0 ls = ls := by
  apply List.ext_getElem?
  intro j; simp [mp, List.getElem?_mapIdx]
theorem mp_set (f) {i : Nat} {ls : List LineS} (hi : i < ls.length) : (mp f i ls).set i (f ls[i]) = mp f (i + 1) ls := by
  apply List.ext_getElem?
  intro j
  by_cases hj : j = i
  · subst hj
    rw [List.getElem?_set_self (by rw [mp_length]; exact hi)]
    simp [mp, List.getElem?_mapIdx, hi]
  · rw [List.getElem?_set_ne (Ne.symm hj)]
    simp only [mp, List.getElem?_mapIdx]
    by_cases hlt : j < i
    · simp [hlt, show j < i + 1 by omega]
    · simp [hlt, show ¬ j < i + 1 by omega]
theorem mp_map (f) (ls : List LineS) : mp f ls.length ls = ls.map f := by
  apply List.ext_getElem?
  intro j
  simp only [mp, List.getElem?_mapIdx, List.getElem?_map]
  rcases Nat.lt_or_ge j ls.length with h | h
  · simp [h]
  · simp [h]
def fenceL (l : LineS) : LineS := if 0 ≤ l.mark then ⟨l.st.drop l.mark.toNat, -1⟩ else l
def fenceS (s : DevS) : DevS := { s with ls := s.ls.map fenceL }
/-- What Fence answers, and the device behind it. -/
def fe (s : DevS) : Int × DevS := if s.off then (5, s) else (doneE (fenceS s), doneS (fenceS s))
end Go.Vl

namespace Go.Vl
open Go Go.Proofs
/-- What is to be read of a device. -/
structure DevR (A : SP) (d bl : Nat) (svs : List Value) (av : Value) (s : DevS) : Prop where
  d : Cells A d 0 (dcs bl s.ls.length s av)
  b : Cells A bl 0 (lcs svs s.ls)
  len : svs.length = s.ls.length
  st : ∀ i (h : i < s.ls.length), ∃ a c, svs[i]? = some (.slice a s.ls[i].st.length c) ∧ s.ls[i].st.length ≤ c ∧ Rd A a (stc s.ls[i].st)
  wf : WfD s
theorem DevR.left {A X : SP} {d bl : Nat} {svs : List Value} {av : Value} {s : DevS} (h : DevR A d bl svs av s) : DevR (A * X) d bl svs av s :=
  ⟨h.d.left, h.b.left, h.len, fun i hi => by obtain ⟨a, c, h1, h2, h3⟩ := h.st i hi; exact ⟨a, c, h1, h2, h3.left⟩, h.wf⟩
theorem devR_of {F : SP} {d bl : Nat} {svs kvs : List Value} {av : Value} {s : DevS} (hw : WfD s) (hsv : svs.length = s.ls.length) {g : Gh} {w : World} (hs : sat g w (F * DevC d bl svs av kvs s)) : DevR (F * DevC d bl svs av kvs s) d bl svs av s :=
  ⟨dev_cells, cells_all devC_bl (lcs_length hsv), hsv, fun i hi => by
    obtain ⟨R, hf1, _⟩ := devC_focus (d := d) (bl := bl) (kvs := kvs) (av := av) (s := s) hsv hi
    obtain ⟨a, c, h1, h2, _, h3⟩ := sl_have' (hf1 F) hs
    exact ⟨a, c, by rw [List.getElem?_eq_getElem (by omega), h1], h2, h3⟩, hw⟩
/-- A call that only reads the device and makes something. -/
theorem fn_devR {P : Program} {f : FuncId} {args : Array Value} {F : SP} {d : Nat} {s : DevS} {Q : Value → SP → Prop}
    (h : WfD s → ∀ A bl svs av, DevR A d bl svs av s → Fn P f args A fun r B => ∃ X, B = A * X ∧ Q r X) :
    Fn P f args (F * Dev d s) fun r B => ∃ X, B = F * Dev d s * X ∧ Q r X := fun g w hs => by
  obtain ⟨hw, bl, svs, av, kvs, h1, h2, hs'⟩ := dev_iff.1 hs
  refine (h hw _ bl svs av (devR_of hw h1 hs') g w hs').mono ?_; rintro e w' ⟨v, B, e1, ⟨X, rfl, hq⟩, hB⟩; refine ⟨v, F * Dev d s * X, e1, ⟨X, rfl, hq⟩, ?_⟩
  rw [star_swap] at hB ⊢
  exact dev_back hw h1 h2 _ _ hB
theorem fn_devR0 {P : Program} {f : FuncId} {args : Array Value} {F : SP} {d : Nat} {s : DevS} {q : Value → Prop}
    (h : WfD s → ∀ A bl svs av, DevR A d bl svs av s → Fn P f args A fun r B => q r ∧ A = B) :
    Fn P f args (F * Dev d s) fun r B => q r ∧ F * Dev d s = B := fun g w hs => by
  obtain ⟨hw, bl, svs, av, kvs, h1, h2, hs'⟩ := dev_iff.1 hs
  refine (h hw _ bl svs av (devR_of hw h1 hs') g w hs').mono ?_; rintro e w' ⟨v, B, e1, ⟨hq, rfl⟩, hB⟩; exact ⟨v, F * Dev d s, e1, ⟨hq, rfl⟩, dev_back hw h1 h2 _ _ hB⟩
theorem seenR_f {A : SP} {d bl : Nat} {svs : List Value} {av : Value} {s : DevS} (h : DevR A d bl svs av s) {i : Nat} (hi : i < s.ls.length) :
    Fn Tryz.prog 105 #[.pointer (some ⟨bl, 0 + i * 2, none⟩)] A (fun r B => r = .agg (wds (seenL s.ls[i])).toArray ∧ A = B) := by
  obtain ⟨a, c, h1, h2, h3⟩ := h.st i hi
  have hwl := h.wf.line _ (List.getElem_mem hi)
  have hp := List.length_pos_iff.2 hwl.ne
  have hb := h.b (i * 2) (.slice a s.ls[i].st.length c) (by
    have := lcs_sv (vs := svs) (ls := s.ls) (i := i) h.len (by have := h.len; omega)
    rw [this]; rw [List.getElem?_eq_getElem (by have := h.len; omega)] at h1; exact h1)
  refine (seen_f A bl (0 + i * 2) c a s.ls[i].st hb h3 hwl.eight hp hwl.small).mono fun v B ⟨e, e'⟩ => ⟨?_, e'⟩
  rw [e, seenL_eq hp]
def img (ls : List LineS) : List Nat := ls.flatMap fun l => lb (seenL l)
/-- All bytes, as they are seen. -/
def imgS (s : DevS) : List Nat := img s.ls
theorem seen8 {l : LineS} (h : WfL l) : (lb (seenL l)).length = 64 := by rw [lb_length, h.eight _ (seenL_mem h)]
theorem img_length {ls : List LineS} (h : ∀ l ∈ ls, WfL l) : (img ls).length = ls.length * 64 := by
  induction ls with
  | nil => rfl
  | cons l ls ih =>
    have := ih fun x hx => h x (by simp [hx])
    have h8 := seen8 (h l (by simp))
    simp only [img, List.flatMap_cons, List.length_append, List.length_cons] at *
    omega
theorem img_at : ∀ {ls : List LineS} {i : Nat} (_ : ∀ l ∈ ls, WfL l) (hi : i < ls.length), (img ls).drop (i * 64) = lb (seenL ls[i]) ++ img (ls.drop (i + 1))
  | l :: ls, 0, _, _ => by simp [img]
  | l :: ls, i + 1, h, hi => by
    have h8 := seen8 (h l (by simp))
    have e : (i + 1) * 64 = (lb (seenL l)).length + i * 64 := by omega
    rw [e]
    show ((lb (seenL l)) ++ img ls).drop _ = _
    rw [← List.drop_drop, List.drop_left]
    exact img_at (fun x hx => h x (by simp [hx])) (by simpa using hi)
theorem img_chunk {ls : List LineS} {q c : Nat} (h : ∀ l ∈ ls, WfL l) (hq : q / 64 < ls.length) (hc : c ≤ 64 - q % 64) :
    ((lb (seenL ls[q / 64])).drop (q % 64)).take c = ((img ls).drop q).take c := by
  have h8 := seen8 (h _ (List.getElem_mem hq))
  have e : q = q / 64 * 64 + q % 64 := by omega
  conv => rhs; rw [e]
  rw [← List.drop_drop, img_at h hq, List.drop_append_of_le_length (by omega), List.take_append_of_le_length (by rw [List.length_drop]; omega)]
theorem load_step {W : List Nat} {ls : List LineS} {p m k c : Nat} (h : ∀ l ∈ ls, WfL l) (hW : W = ((img ls).drop p).take m) (hp : p + m ≤ ls.length * 64) (hk : k < m) (hc : c = min (64 - (p + k) % 64) (m - k)) (hq : (p + k) / 64 < ls.length) (z : Value) :
    splice (bys (W.take k) ++ List.replicate (m - k) z) k ((bys ((lb (seenL ls[(p + k) / 64])).drop ((p + k) % 64))).take c) = bys (W.take (k + c)) ++ List.replicate (m - (k + c)) z := by
  have hl := img_length h
  have hWl : W.length = m := by rw [hW, List.length_take, List.length_drop]; omega
  have h8 := seen8 (h _ (List.getElem_mem hq))
  have e1 : (bys ((lb (seenL ls[(p + k) / 64])).drop ((p + k) % 64))).take c = bys ((W.drop k).take c) := by
    unfold bys
    rw [← List.map_take, img_chunk h hq (by omega), hW, List.drop_take, List.drop_drop, List.take_take]
    congr 2; omega
  rw [e1, splice_eq (by simp [bys_length, hWl]; omega)]
  have e2 : (bys (W.take k)).length = k := by rw [bys_length, List.length_take]; omega
  have e3 : (bys ((W.drop k).take c)).length = c := by rw [bys_length, List.length_take, List.length_drop]; omega
  rw [e3, List.take_left' e2, ← List.drop_drop, List.drop_left' e2, List.drop_replicate, List.take_add, bys_append]
  congr 2; omega
/-- Lists of bytes, each owned. -/
def Parts : List Value → List (List Nat) → SP
  | v :: vs, x :: xs => Parts vs xs * Sl 1 v x.length (bys x)
  | [], [] => emp
  | _, _ => pure_ False
theorem parts_snoc : ∀ {vs : List Value} {ls : List (List Nat)} {v : Value} {x : List Nat} (_ : vs.length = ls.length), Parts (vs ++ [v]) (ls ++ [x]) = Parts vs ls * Sl 1 v x.length (bys x)
  | [], [], _, _, _ => rfl
  | u :: vs, y :: ls, v, x, h => by
    show Parts (vs ++ [v]) (ls ++ [x]) * Sl 1 u y.length (bys y) = _
    rw [parts_snoc (by simpa using h)]
    show _ = Parts vs ls * Sl 1 u y.length (bys y) * Sl 1 v x.length (bys x)
    rw [star_swap]
theorem LoadNo_f (A : SP) (d bl : Nat) (svs : List Value) (av : Value) (s : DevS) (hR : DevR A d bl svs av s) (p m : Int) (hp : -9223372036854775808 ≤ p ∧ p ≤ 9223372036854775807) (hm : -9223372036854775808 ≤ m ∧ m ≤ 9223372036854775807) (hno : rdy s.ls.length s.off p m ≠ 0) :
    Fn Tryz.prog 110 #[.pointer (some ⟨d, 0, none⟩), .int .i64 p, .int .i64 m] (A) (fun r B => r = .tuple #[.slice none 0 0, .int .i64 (rdy s.ls.length s.off p m)] ∧ A = B) := by
  refine fn_enter (args := [.pointer (some ⟨d, 0, none⟩), .int .i64 p, .int .i64 m]) Tryz.func110 rfl Tryz.ntmps110 (by simp) ?_; refine sr ?_; refine tv (o_assign rfl) ?_; refine tv (o_assign rfl) ?_; refine nq ?_; refine tc_seq ?_; refine sr ?_; refine tv (o_move rfl) ?_; refine tv (o_move rfl) ?_; refine tv (o_move rfl) ?_; refine tl_c rfl (o_call bd92 rfl (ready_f _ d bl s.ls.length s av hR.d hR.wf.pos hR.wf.top p m hp hm)) ?_; rintro _ _ ⟨rfl, rfl⟩; refine tv (o_assign rfl) ?_; refine nq ?_; refine sr ?_; refine tv (o_move rfl) ?_; refine tv (o_nei rfl rfl) ?_; refine nq ?_; refine tc_cond rfl (fun h => ?_) (fun h => ?_)
  · try simp only [lv1, lv2, lv3, lv4, lv5, lv6, Bool.not_true, Bool.not_false] at h
    refine sr ?_; refine tv (o_move rfl) ?_; refine tv (o_assign rfl) ?_; refine tv (o_assign rfl) ?_; refine nq ?_; refine tc_ret ?_; refine q_then_r ?_; exact ⟨.tuple #[.slice none 0 0, .int .i64 (rdy s.ls.length s.off p m)], res2 rfl rfl rfl, rfl, rfl⟩
  · exfalso; simp [hno] at h
theorem Load_f (A : SP) (d bl : Nat) (svs : List Value) (av : Value) (s : DevS) (p m : Nat) (W : List Nat) (hR : DevR A d bl svs av s) (hoff : s.off = false) (hpm : p + m ≤ s.ls.length * 64) (hW : W = ((imgS s).drop p).take m) :
    Fn Tryz.prog 110 #[.pointer (some ⟨d, 0, none⟩), .int .i64 (p : Nat), .int .i64 (m : Nat)] (A) (fun r B => ∃ X, B = A * X ∧ ∃ u, r = .tuple #[u, .int .i64 0] ∧ X = Sl 1 u m (bys W)) := by
  refine fn_enterW (args := [.pointer (some ⟨d, 0, none⟩), .int .i64 (p : Nat), .int .i64 (m : Nat)]) Tryz.func110 rfl Tryz.ntmps110 (by simp) ?_
  have hpos := hR.wf.pos
  have htop := hR.wf.top
  have hok : rdy s.ls.length s.off p m = 0 := by unfold rdy; rw [hoff, if_neg (by simp), if_neg (by omega)]
  have hWl : W.length = m := by rw [hW, List.length_take, List.length_drop, imgS, img_length hR.wf.line]; omega
  refine sr ?_; refine tv (o_assign rfl) ?_; refine tv (o_assign rfl) ?_; refine nq ?_; refine tc_seq ?_; refine sr ?_; refine tv (o_move rfl) ?_; refine tv (o_move rfl) ?_; refine tv (o_move rfl) ?_; refine tl_c rfl (o_call bd92 rfl (ready_f _ d bl s.ls.length s av hR.d hR.wf.pos hR.wf.top p m (by omega) (by omega))) ?_; rintro _ _ ⟨rfl, rfl⟩; refine tv (o_assign rfl) ?_; refine nq ?_; refine sr ?_; refine tv (o_move rfl) ?_; refine tv (o_nei rfl rfl) ?_; refine nq ?_; refine tc_cond rfl (fun h => ?_) (fun h => ?_)
  · exfalso; simp [hok] at h
  · try simp only [lv1, lv2, lv3, lv4, lv5, lv6, Bool.not_true, Bool.not_false] at h
    refine tc_skip ?_; refine q_then_n ?_; refine sr ?_; refine tv (o_move rfl) ?_; refine tl_x rfl (o_makeSlice (len := m) (cap := m) Tryz.underlying57 sz5 by5 z5 rfl rfl rfl (by omega) (by omega) (by omega)) ?_; rintro _ _ ⟨b21, rfl, rfl⟩; refine tv (o_assign rfl) ?_; refine nq ?_; refine tc_seq ?_; refine sr ?_; refine tv (o_assign rfl) ?_; refine nq ?_; refine tc_block ?_; refine tc_loop (fun j ρ B => ∃ (k : Nat), k ≤ m ∧ j = m - k ∧ ρ 0 = .pointer (some ⟨d, 0, none⟩) ∧ ρ 1 = .int .i64 (p : Nat) ∧ ρ 2 = .int .i64 (m : Nat) ∧ ρ 9 = .slice (some ⟨b21, 0, none⟩) m m ∧ ρ 10 = .int .i64 (k : Nat) ∧ B = A * pt b21 (cl (bys (W.take k) ++ List.replicate (m - k) (.int .u8 0)) 5)) (m := m) ?_ ?_
    · exact ⟨0, by omega, rfl, rfl, rfl, rfl, rfl, rfl, rfl⟩
    · intro k ρ B hI
      obtain ⟨k, hk, rfl, h0, h1, h2, h9, h10, rfl⟩ := hI
      refine tc_env (d := 0) h0 ?_; refine tc_env (d := 1) h1 ?_; refine tc_env (d := 2) h2 ?_; refine tc_env (d := 9) h9 ?_; refine tc_env (d := 10) h10 ?_; refine tc_seq ?_; refine sr ?_; refine tv (o_move rfl) ?_; refine tv (o_move rfl) ?_; refine tv (o_lss rfl rfl) ?_; refine nq ?_; refine tc_cond rfl (fun h => ?_) (fun h => ?_)
      · simp only [decide_eq_true_eq] at h
        have hk' : k < m := by omega
        have hq : (p + k) / 64 < s.ls.length := by omega
        have hwl := hR.wf.line _ (List.getElem_mem hq)
        have h64 := seen8 hwl
        refine tc_skip ?_; refine q_then_n ?_; refine tc_block ?_; refine sr ?_; refine tv (o_move rfl) ?_; refine tv (o_move rfl) ?_; refine tv (by first | exact o_addI rfl rfl (by omega) | exact o_add rfl rfl) ?_; refine tl_env (d := 27) (v := .int .i64 ((p + k : Nat) : Int)) rfl ?_; refine tv (o_assign rfl) ?_; refine nq ?_; refine sr ?_; refine tv (o_move rfl) ?_; refine tv (o_nilCheck rfl) ?_; refine tv (o_fieldAddr (o := 0) Tryz.underlying97 rfl rfl sz94 rfl) ?_; refine tv (o_loadC p94 rfl (hR.d 0 _ rfl).left) ?_; refine tv (o_move rfl) ?_; refine tv (o_quoN (a := p + k) (b := 64) rfl rfl (by omega)) ?_; refine tv (o_indexAddrN (j := (p + k) / 64) Tryz.underlying94 sz179 rfl rfl hq) ?_; refine tl_c rfl (o_call bd105 rfl (seenR_f hR.left hq)) ?_; rintro _ _ ⟨rfl, rfl⟩; refine tl_c rfl (o_call bd106 rfl (bytes_f _ (seenL s.ls[(p + k) / 64]) (hwl.eight _ (seenL_mem hwl)) (hwl.words _ (seenL_mem hwl)))) ?_; rintro u36 _ ⟨_, rfl, rfl⟩; refine tl_have (fun _ _ h => sl_have h) fun ⟨a2, c2, hv2, hnc2, hl2, hrd2⟩ => ?_
        subst hv2
        refine tv (o_assign rfl) ?_; refine nq ?_; refine tc_rega mo ?_
        show TA _ _ _ _ 11 #[ff,ff,ff,ff,ff,ff,ff,ff,ff,ff,ff] _ _
        refine ta_pure (i := 0) (listed' := #[tt,ff,ff,ff,ff,ff,ff,ff,ff,ff,ff]) rfl (by kernel_rfl) (by kernel_rfl) (by kernel_rfl) rfl rfl (o_move rfl) ?_; refine ta_pure (i := 1) (listed' := #[tt,tt,ff,ff,ff,ff,ff,ff,ff,ff,ff]) rfl (by kernel_rfl) (by kernel_rfl) (by kernel_rfl) rfl rfl (o_move rfl) ?_; refine ta_pure (i := 2) (listed' := #[tt,tt,tt,ff,ff,ff,ff,ff,ff,ff,ff]) rfl (by kernel_rfl) (by kernel_rfl) (by kernel_rfl) rfl rfl (o_move rfl) ?_; refine ta_pure (i := 3) (listed' := #[tt,tt,tt,tt,ff,ff,ff,ff,ff,ff,ff]) rfl (by kernel_rfl) (by kernel_rfl) (by kernel_rfl) rfl rfl (o_slice (l := k) (h := m) Tryz.underlying57 sz5 rfl (bnd_nat (r := k) rfl) bnd_none (by omega) (by omega)) ?_; refine ta_pure (i := 4) (listed' := #[tt,tt,tt,tt,tt,ff,ff,ff,ff,ff,ff]) rfl (by kernel_rfl) (by kernel_rfl) (by kernel_rfl) rfl rfl (o_move rfl) ?_; refine ta_pure (i := 5) (listed' := #[tt,tt,tt,tt,tt,tt,ff,ff,ff,ff,ff]) rfl (by kernel_rfl) (by kernel_rfl) (by kernel_rfl) rfl rfl (o_move rfl) ?_; refine ta_pure (i := 6) (listed' := #[tt,tt,tt,tt,tt,tt,tt,ff,ff,ff,ff]) rfl (by kernel_rfl) (by kernel_rfl) (by kernel_rfl) rfl rfl (o_remN (a := p + k) (b := 64) rfl rfl (by omega)) ?_; refine ta_pure (i := 7) (listed' := #[tt,tt,tt,tt,tt,tt,tt,tt,ff,ff,ff]) rfl (by kernel_rfl) (by kernel_rfl) (by kernel_rfl) rfl rfl (o_slice (l := (p + k) % 64) (h := 64) Tryz.underlying57 sz5 rfl (bnd_nat (r := (p + k) % 64) rfl) bnd_none (by omega) (by omega)) ?_
        obtain ⟨b2, o2, rfl, hcs2⟩ := hrd2.some (by rw [bys_length]; omega)
        have hlt2 : (p + k) % 64 < c2 := by omega
        have hsub : Rd (A * pt b21 (cl (bys (W.take k) ++ List.replicate (m - k) (.int .u8 0)) 5) * Sl 1 (.slice (some ⟨b2, o2, none⟩) 64 c2) 64 (bys (lb (seenL s.ls[(p + k) / 64])))) (cutAddr (some ⟨b2, o2, none⟩) c2 ((p + k) % 64) 1) (bys ((lb (seenL s.ls[(p + k) / 64])).drop ((p + k) % 64))) := by
          rw [cut_lt hlt2]
          refine rd_cells (hcs2.sub ((p + k) % 64 * 1) (64 - (p + k) % 64) ?_)
          unfold bys
          rw [Nat.mul_one, List.map_drop, List.take_of_length_le]
          rw [List.length_drop, List.length_map]; omega
        refine ta_one (i := 8) (by kernel_rfl) ?_; refine oa_x (i := 8) (listed' := #[tt,tt,tt,tt,tt,tt,tt,tt,tt,ff,ff]) rfl rfl rfl (o_copy (b := b21) (off := k) (dl := m - k) (dc := m - k) (m := min (64 - (p + k) % 64) (m - k)) (l' := bys (W.take (k + min (64 - (p + k) % 64) (m - k))) ++ List.replicate (m - (k + min (64 - (p + k) % 64) (m - k))) (.int .u8 0)) Tryz.underlying57 sz5 (by show Value.slice (cutAddr (some ⟨b21, 0, none⟩) m k 1) (m - k) (m - k) = _; rw [cut_lt hk', Nat.zero_add, Nat.mul_one]) rfl hsub (by rw [bys_length, List.length_drop]; omega) rfl bys_oneC (by rw [List.length_append, bys_length, List.length_take, List.length_replicate]; omega) (load_step hR.wf.line hW hpm hk' rfl hq _) (upd_left upd_here)) ?_; rintro _ _ ⟨rfl, rfl⟩; refine ta_pre (fun _ _ h => h.left) ?_; refine ta_pure (i := 9) (listed' := #[tt,tt,tt,tt,tt,tt,tt,tt,tt,tt,ff]) rfl (by kernel_rfl) (by kernel_rfl) (by kernel_rfl) rfl rfl (by first | exact o_addI rfl rfl (by omega) | exact o_add rfl rfl) ?_; refine ta_pure (i := 10) (listed' := #[tt,tt,tt,tt,tt,tt,tt,tt,tt,tt,tt]) rfl (by kernel_rfl) (by kernel_rfl) (by kernel_rfl) rfl rfl (o_assign rfl) ?_; refine ta_done (by kernel_rfl) ?_; refine q_block_n (q_then_n ?_); exact ⟨_, by omega, k + min (64 - (p + k) % 64) (m - k), by omega, rfl, rfl, rfl, rfl, rfl, rfl, rfl⟩
      · try simp only [lv1, lv2, lv3, lv4, lv5, lv6, Bool.not_true, Bool.not_false] at h
        refine tc_exit ?_; refine q_then_e (q_then_e (q_block_x (q_then_n ?_))); refine sr ?_; refine tv (o_move rfl) ?_; refine tv (o_assign rfl) ?_; refine tv (o_assign rfl) ?_; refine nq ?_; refine tc_ret ?_
        obtain rfl : k = m := by omega
        rw [List.take_of_length_le (by omega), Nat.sub_self]
        exact ⟨.tuple #[.slice (some ⟨b21, 0, none⟩) k k, .int .i64 0], _, res2 rfl rfl rfl, fun _ _ h => sl_new (k := 1) (n := k) (cap := k) (xs := bys W) h (by omega) (by simp [bys_length, hWl]) (List.take_of_length_le (by simp [bys_length, hWl]) |>.trans (by simp)), _, rfl, _, rfl, rfl⟩
end Go.Vl

namespace Go.Vl
open Go Go.Proofs
/-- What Contents tells. -/
def ctS (i : Nat) (s : DevS) : List (List Nat) := (s.ls.getD i ⟨[], 0⟩).st.map lb
end Go.Vl

namespace Go.Vl
open Go Go.Proofs
def reps (zl : List Value) : Nat → List Value
  | 0 => []
  | n + 1 => zl ++ reps zl n
theorem reps_length (zl : List Value) : ∀ n, (reps zl n).length = n * zl.length
  | 0 => by simp [reps]
  | n + 1 => by rw [reps, List.length_append, reps_length zl n, Nat.add_mul]; omega
theorem reps_at (zl : List Value) (hk : 0 < zl.length) : ∀ (n j : Nat), j < n * zl.length → (reps zl n)[j]? = zl[j % zl.length]?
  | 0, j, h => by omega
  | n + 1, j, h => by
    rw [reps]
    rcases Nat.lt_or_ge j zl.length with h1 | h1
    · rw [List.getElem?_append_left h1, Nat.mod_eq_of_lt h1]
    · rw [List.getElem?_append_right h1, reps_at zl hk n (j - zl.length) (by rw [Nat.add_mul] at h; omega), Nat.mod_eq_sub_mod h1]
section
variable {P : Program} {n : Nat} {ρ : Env} {A : SP} {dst : Option Tmp} {ty : TypeId} {pos : String} {after : Array Edge} {gd : Option (Nat × Bool)}
theorem o_makeSliceK {t e : TypeId} {x y : Operand} {len cap k : Nat} {bytes : Nat} {k1 k2 : IntKind} {zl : List Value} (hu : P.underlying t = some (.slice e)) (hk : szE P e = some k) (hb : bytesE P e = some bytes) (hz : zeroE P e = some (.agg zl.toArray)) (hzl : zl.length = k) (hk0 : 0 < k)
    (hx : ev n ρ x = .int k1 len) (hy : ev n ρ y = .int k2 cap) (h1 : len ≤ cap) (h2 : cap * bytes ≤ 140737488355328) (h3 : cap ≤ 140737488355328) (h4 : 0 < cap) :
    OpX P n ρ A ⟨dst, .makeSlice t x y, ty, pos, after, gd⟩ (NewS A (reps zl cap) e len cap) := fun g w hs => by
  refine ⟨_, w.alloc (cl (reps zl cap) e), _, ?_, hs.alloc _, w.heap.size, rfl, rfl⟩
  have w1 : IntKind.i64.wrap (len : Int) = len := by rw [IntWalk.i64_in _ (by omega)]
  have w2 : IntKind.i64.wrap (cap : Int) = cap := by rw [IntWalk.i64_in _ (by omega)]
  obtain ⟨i, hi, hib⟩ := run_bytes (w := w) hb
  have p47 : (2 : Nat) ^ 47 = 140737488355328 := by decide
  have p48 : (2 : Int) ^ 48 = 281474976710656 := by decide
  simp only [execOp, hx, hy]
  rw [run_bind (w' := w.alloc (cl (reps zl cap) e)) (a := .slice (some ⟨w.heap.size, 0, none⟩) len cap)]
  · rfl
  unfold Instr.makeSlice
  rw [run_bind (run_und hu)]
  simp only []
  rw [run_bind (w' := w) (a := (len : Int)) (by rfl), run_bind (w' := w) (a := (cap : Int)) (by rfl), run_bind hi]
  simp only [w1, w2, hib, p48]
  have hcb : (bytes : Int) * (cap : Int) ≤ 140737488355328 := by
    have : (bytes : Int) * (cap : Int) = ((cap * bytes : Nat) : Int) := by rw [Nat.mul_comm]; simp
    rw [this]; omega
  rw [if_neg (by simp; omega)]
  have ask : (askRoom (((cap : Nat) : Int).toNat * bytes)).run P w = .ok () w := by
    unfold askRoom roomBytes
    rw [p47, if_neg (by simp; omega)]; rfl
  rw [run_bind ask, run_bind (run_size hk)]
  have h0 : cap * k ≠ 0 := Nat.mul_ne_zero (by omega) (by omega)
  simp only [Int.toNat_natCast, h0, if_false]
  rw [run_bind (run_zeroV hz)]
  have hrow : ((Array.range (cap * k)).map fun x => (Value.agg zl.toArray).cells[x % (Value.agg zl.toArray).cells.size]!) = (reps zl cap).toArray := by
    simp only [Value.cells]
    apply Array.ext'
    rw [Array.toList_map]
    apply List.ext_getElem?
    intro j
    simp only [Array.toList_range, List.getElem?_map, List.size_toArray]
    subst hzl
    rcases Nat.lt_or_ge j (cap * zl.length) with h | h
    · rw [reps_at zl hk0 cap j h]
      have hm : j % zl.length < zl.length := Nat.mod_lt _ hk0
      simp [h, hm]
    · rw [List.getElem?_eq_none (by simpa using h), List.getElem?_eq_none (by rw [reps_length]; exact h)]; rfl
  show (do let a ← newRow e ((Array.range (cap * k)).map fun x => (Value.agg zl.toArray).cells[x % (Value.agg zl.toArray).cells.size]!); pure (Value.slice (some a) ((len : Nat) : Int).toNat ((cap : Nat) : Int).toNat) : Sem Value).run P w = _
  rw [hrow, run_bind run_newRow]
  simp [pure, Int.toNat_natCast]
end
/-- May a device have that size? -/
def fitsB (p : Int) : Bool := decide (64 ≤ p ∧ p ≤ 4194304 ∧ p % 64 = 0)
def blank (n : Nat) : DevS := ⟨List.replicate n ⟨[], 0⟩, 0, [], 0, false⟩
def zline : LineS := ⟨[List.replicate 8 0], -1⟩
/-- A device of bytes 0. -/
def newS (n : Nat) : DevS := ⟨List.replicate n zline, 0, [], 0, false⟩
theorem zline_wf : WfL zline := ⟨by simp [zline], by simp [zline, Eight], by simp [zline], by simp [zline], by simp [zline], by simp [zline]⟩
theorem newS_wf {n : Nat} (h : 0 < n) (h2 : n ≤ 65536) : WfD (newS n) := ⟨by simpa [newS] using h, by simpa [newS] using h2, fun l hl => by
  simp only [newS, List.mem_replicate] at hl; rw [hl.2]; exact zline_wf, by simp [newS], by simp [newS], by simp [newS]⟩
theorem lcs_blank : ∀ n, lcs (List.replicate n (.slice none 0 0)) (List.replicate n ⟨[], 0⟩) = reps [.slice none 0 0, .int .i64 0] n
  | 0 => rfl
  | n + 1 => by simp only [List.replicate_succ, lcs, reps, List.cons_append, List.nil_append]; rw [lcs_blank n]
theorem linesR_blank : ∀ (n : Nat) {R : SP} {g : Gh} {w : World}, sat g w R → sat g w (R * LinesR (List.replicate n (.slice none 0 0)) (List.replicate n ⟨[], 0⟩))
  | 0, R, g, w, h => by show sat g w (R * emp); rw [star_emp]; exact h
  | n + 1, R, g, w, h => by
    simp only [List.replicate_succ, LinesR]
    rw [← star_assoc]
    exact sl_nil (k := 8) (linesR_blank n h)
theorem blank_dev {F : SP} {d bl n : Nat} {g : Gh} {w : World} (hs : sat g w (F * pt bl (cl (reps [.slice none 0 0, .int .i64 0] n) 179) * pt d (cl [.slice (some ⟨bl, 0, none⟩) n n, .int .i64 0, .slice none 0 0, .int .i64 0, .bool false] 97))) :
    sat g w (F * DevC d bl (List.replicate n (.slice none 0 0)) (.slice none 0 0) [] (blank n)) := by
  rw [devC_eq]
  unfold ArmsR
  have h1 := sl_nil (k := 2) (linesR_blank n hs)
  rw [← lcs_blank] at h1
  refine h1.perm ?_
  simp only [blank, dcs, List.length_replicate, acs, KeepsR, List.length_nil, star_emp]
  ac_rfl
theorem mp_blank (n : Nat) : mp (fun _ => zline) n (List.replicate n ⟨[], 0⟩) = (newS n).ls := by
  have := mp_map (fun _ => zline) (List.replicate n ⟨[], 0⟩)
  rw [List.length_replicate] at this
  rw [this]; simp [newS]
theorem fits_f (A : SP) (p : Int) (hp : -9223372036854775808 ≤ p ∧ p ≤ 9223372036854775807) :
    Fn Tryz.prog 107 #[.int .i64 p] (A) (fun r B => r = .bool (fitsB p) ∧ A = B) := by
  refine fn_enter (args := [.int .i64 p]) Tryz.func107 rfl Tryz.ntmps107 (by simp) ?_; refine sr ?_; refine tv (o_assign rfl) ?_; refine nq ?_; refine sr ?_; refine tv (o_move rfl) ?_; refine tv (o_geq rfl rfl) ?_; refine tv (o_move rfl) ?_; refine tl_bool (d := 5) rfl (fun h => ?_) (fun h => ?_)
  · try simp only [lv1, lv2, lv3, lv4, lv5, lv6, Bool.not_true, Bool.not_false] at h
    refine tv (o_move rfl) ?_; refine tv (o_leq rfl rfl) ?_; refine tv (by first | exact o_pick_t rfl rfl | exact o_pick_f rfl rfl | exact o_pick rfl rfl) ?_; refine tv (o_move rfl) ?_; refine tl_bool (d := 9) rfl (fun h => ?_) (fun h => ?_)
    · try simp only [lv1, lv2, lv3, lv4, lv5, lv6, Bool.not_true, Bool.not_false] at h
      refine tv (o_move rfl) ?_; refine tv (o_remI rfl rfl (by omega)) ?_; refine tv (o_eqi rfl rfl) ?_; refine tv (by first | exact o_pick_t rfl rfl | exact o_pick_f rfl rfl | exact o_pick rfl rfl) ?_; refine tv (o_assign rfl) ?_; refine nq ?_; refine tc_ret ?_; exact ⟨.bool (decide (p % 64 = 0)), res1 rfl rfl, by unfold fitsB; congr 1; rw [decide_eq_decide]; omega, rfl⟩
    · try simp only [lv1, lv2, lv3, lv4, lv5, lv6, Bool.not_true, Bool.not_false] at h
      refine tk ?_; refine tk ?_; refine tk ?_; refine tv (by first | exact o_pick_t rfl rfl | exact o_pick_f rfl rfl | exact o_pick rfl rfl) ?_; refine tv (o_assign rfl) ?_; refine nq ?_; refine tc_ret ?_; exact ⟨.bool false, res1 rfl rfl, by unfold fitsB; rw [decide_eq_false (by omega)], rfl⟩
  · try simp only [lv1, lv2, lv3, lv4, lv5, lv6, Bool.not_true, Bool.not_false] at h
    refine tk ?_; refine tk ?_; refine tv (by first | exact o_pick_t rfl rfl | exact o_pick_f rfl rfl | exact o_pick rfl rfl) ?_; refine tv (o_move rfl) ?_; refine tk ?_; refine tk ?_; refine tk ?_; refine tv (by first | exact o_pick_t rfl rfl | exact o_pick_f rfl rfl | exact o_pick rfl rfl) ?_; refine tv (o_assign rfl) ?_; refine nq ?_; refine tc_ret ?_; exact ⟨.bool false, res1 rfl rfl, by unfold fitsB; rw [decide_eq_false (by omega)], rfl⟩
theorem New_f (F : SP) (n : Nat) (hn : 0 < n) (hn2 : n ≤ 65536) :
    Fn Tryz.prog 37 #[.int .i64 ((n * 64 : Nat) : Int)] (F) (fun r B => ∃ d, r = .tuple #[.pointer (some ⟨d, 0, none⟩), .int .i64 0] ∧ B = F * Dev d (newS n)) := by
  refine fn_enterW (args := [.int .i64 ((n * 64 : Nat) : Int)]) Tryz.func37 rfl Tryz.ntmps37 (by simp) ?_
  have hfit : fitsB ((n * 64 : Nat) : Int) = true := by unfold fitsB; simp; omega
  refine sr ?_; refine tv (o_assign rfl) ?_; refine tv (o_assign rfl) ?_; refine nq ?_; refine tc_seq ?_; refine sr ?_; refine tv (o_move rfl) ?_; refine tl_c rfl (o_call bd107 rfl (fits_f F _ (by omega))) ?_; rintro _ _ ⟨rfl, rfl⟩; refine tv (o_not rfl) ?_; refine nq ?_; refine tc_cond rfl (fun h => ?_) (fun h => ?_)
  · exfalso; rw [hfit] at h; exact absurd h (by decide)
  · try simp only [lv1, lv2, lv3, lv4, lv5, lv6, Bool.not_true, Bool.not_false] at h
    refine tc_skip ?_; refine q_then_n ?_; refine sr ?_; refine tv (o_move rfl) ?_; refine tv (o_quoN (a := n * 64) (b := 64) rfl rfl (by omega)) ?_; refine tl_env (d := 10) (v := .int .i64 (n : Nat)) (by show Value.int .i64 ((n * 64 / 64 : Nat) : Int) = _; rw [Nat.mul_div_cancel _ (by decide)]) ?_; refine tl_x rfl (o_makeSliceK (len := n) (cap := n) Tryz.underlying94 sz179 by179 z179 rfl (by decide) rfl rfl (by omega) (by omega) (by omega) hn) ?_; rintro _ _ ⟨b11, rfl, rfl⟩; refine tv (o_buildS Tryz.underlying97 z97 (pl97 Tryz.underlying97) rfl rfl) ?_; refine tl_x rfl (o_box rfl rfl) ?_; rintro _ _ ⟨b13, rfl, rfl⟩; refine tl_pre (fun _ _ h => blank_dev h) ?_; refine tv (o_assign rfl) ?_; refine nq ?_; refine tc_seq ?_; refine sr ?_; refine tv (o_move rfl) ?_; refine tv (o_nilCheck rfl) ?_; refine tv (o_fieldAddr (o := 0) Tryz.underlying97 rfl rfl sz94 rfl) ?_; refine tv (o_load p94 rfl devC_d rfl) ?_; refine tv (o_len Tryz.underlying94 rfl) ?_; refine tv (o_move rfl) ?_; refine nq ?_; refine tc_block ?_; refine tc_loop (fun k ρ B => ∃ (i : Nat) (svs' : List Value), i ≤ n ∧ k = n - i ∧ svs'.length = n ∧ ρ 4 = .pointer (some ⟨b13, 0, none⟩) ∧ ρ 18 = .int .i64 n ∧ ρ 19 = .int .i64 i ∧ B = F * DevC b13 b11 svs' (.slice none 0 0) [] { blank n with ls := mp (fun _ => zline) i (blank n).ls }) (m := n) ?_ ?_
    · exact ⟨0, List.replicate n (.slice none 0 0), by omega, rfl, by simp, rfl, by show Value.int .i64 ((List.replicate n (⟨[], 0⟩ : LineS)).length : Int) = _; rw [List.length_replicate], rfl, by rw [mp_zero]⟩
    · intro k ρ B hI
      obtain ⟨i, svs', hi, rfl, hsv', h4, h18, h19, rfl⟩ := hI
      refine tc_env (d := 4) h4 ?_; refine tc_env (d := 18) h18 ?_; refine tc_env (d := 19) h19 ?_; refine sr ?_; refine tv (o_lss rfl rfl) ?_; refine nq ?_; refine tc_seq ?_; refine tc_cond rfl (fun h => ?_) (fun h => ?_)
      · simp only [decide_eq_true_eq] at h
        have hi' : i < (blank n).ls.length := by simp [blank]; omega
        have hbl : (blank n).ls.length = n := by simp [blank]
        have hglen : (mp (fun _ => zline) i (blank n).ls).length = n := by rw [mp_length, hbl]
        have hiG : i < (mp (fun _ => zline) i (blank n).ls).length := by omega
        have hsG : svs'.length = (mp (fun _ => zline) i (blank n).ls).length := by omega
        obtain ⟨R, hf1, hf2⟩ := devC_focus (d := b13) (bl := b11) (kvs := []) (av := .slice none 0 0) (s := { blank n with ls := mp (fun _ => zline) i (blank n).ls }) hsG hiG
        refine tc_eq (hf1 F) ?_
        simp only [hglen]
        refine tc_skip ?_; refine q_then_n ?_; refine tc_seq ?_; refine tc_block ?_; refine sr ?_; refine tv (o_move rfl) ?_; refine tv (o_assign rfl) ?_; refine nq ?_; refine tc_reg ?_; refine tv (o_move rfl) ?_; refine tv (o_nilCheck rfl) ?_; refine tv (o_fieldAddr (o := 0) Tryz.underlying97 rfl rfl sz94 rfl) ?_; refine tv (o_load p94 rfl (by repeat (first | exact has_here | exact has_pt | apply has_left)) rfl) ?_; refine tv (o_move rfl) ?_; refine tv (o_buildA (vs := []) Tryz.underlying176 sz174 z176 rfl rfl rfl (Nat.zero_le _) rfl) ?_; refine tl_x rfl (o_buildSliceK (l := wds (List.replicate 8 0)) Tryz.underlying177 sz176 z176 rfl rfl (by decide)) ?_; rintro _ _ ⟨b28, rfl, rfl⟩; refine tv (o_buildS (l := [.slice (some ⟨b28, 0, none⟩) 1 1, .int .i64 (-1)]) Tryz.underlying179 z179 (pl179 Tryz.underlying179) rfl rfl) ?_; refine tv (o_indexAddrN (j := i) Tryz.underlying94 sz179 rfl rfl (by omega)) ?_; refine tl_u rfl (o_storeN (l := lcs svs' (mp (fun _ => zline) i (blank n).ls)) (l' := lcs (svs'.set i (.slice (some ⟨b28, 0, none⟩) 1 1)) ((mp (fun _ => zline) i (blank n).ls).set i zline)) sz179 rfl rfl rfl rfl (by rw [lcs_length hsG, hglen]; omega) (by rw [Nat.zero_add]; exact lcs_set (l := zline) hsG hiG) (by repeat (first | exact upd_here | exact upd_pt | apply upd_left))) ?_
        refine tl_pre (fun _ _ h => h.newline (by rfl)) ?_
        have hfin := hf2 F (.slice (some ⟨b28, 0, none⟩) 1 1) zline
        simp only [hglen] at hfin
        refine tl_eq hfin ?_
        simp only [mp_set (fun _ => zline) hi']
        refine tl_nil ?_; refine q_block_n (q_then_n ?_); refine tc_reg ?_; refine tv (by first | exact o_addI rfl rfl (by omega) | exact o_add rfl rfl) ?_; refine tv (o_move rfl) ?_; refine nq ?_; exact ⟨_, by omega, i + 1, _, by omega, rfl, by rw [List.length_set]; exact hsv', rfl, rfl, rfl, rfl⟩
      · try simp only [lv1, lv2, lv3, lv4, lv5, lv6, Bool.not_true, Bool.not_false] at h
        refine tc_exit ?_; refine q_then_e (q_then_e (q_block_x (q_then_n ?_))); refine sr ?_; refine tv (o_move rfl) ?_; refine tv (o_assign rfl) ?_; refine tv (o_assign rfl) ?_; refine nq ?_; refine tc_ret ?_
        obtain rfl : i = n := by omega
        exact ⟨.tuple #[.pointer (some ⟨b13, 0, none⟩), .int .i64 0], _, res2 rfl rfl rfl, fun g w h => dev_back (s := newS i) (newS_wf hn hn2) (by simp [newS]; exact hsv') rfl g w (h.perm (by show F * DevC b13 b11 svs' _ [] { blank i with ls := mp (fun _ => zline) i (List.replicate i ⟨[], 0⟩) } = _; rw [mp_blank]; rfl)), _, rfl, rfl⟩
end Go.Vl

namespace Go.Vl
open Go Go.Proofs
theorem within_neg {a n : Int} (hn : 0 < n) (h : a.tmod n < 0) : a.tmod n + n = a % n := by
  have e := Int.tmod_eq_emod (a := a) (b := n)
  have h1 := Int.emod_nonneg a (show n ≠ 0 by omega)
  split at e <;> omega
theorem within_pos {a n : Int} (hn : 0 < n) (h : ¬ a.tmod n < 0) : a.tmod n = a % n := by
  have e := Int.tmod_eq_emod (a := a) (b := n)
  have h1 := Int.emod_lt_of_pos a hn
  split at e <;> omega
theorem tmod_lt' {a n : Int} (hn : 0 < n) : -n < a.tmod n ∧ a.tmod n < n := by
  have e := Int.tmod_eq_emod (a := a) (b := n)
  have h1 := Int.emod_nonneg a (show n ≠ 0 by omega)
  have h2 := Int.emod_lt_of_pos a hn
  split at e
  · omega
  · rename_i hx
    have : a % n ≠ 0 := fun h0 => hx (.inr (Int.dvd_of_emod_eq_zero h0))
    omega
theorem CopyInts_f (A : SP) (a : Option Addr) (c : Nat) (xs : List Int) (hr : Rd A a (ints xs)) (hl : xs.length ≤ 17592186044416) :
    Fn Tryz.prog 80 #[.slice a xs.length c] (A) (fun r B => B = A * Sl 1 r xs.length (ints xs)) := by
  refine fn_enter (args := [.slice a xs.length c]) Tryz.func80 rfl Tryz.ntmps80 (by simp) ?_; refine sr ?_; refine tv (o_assign rfl) ?_; refine nq ?_; refine sr ?_; refine tv (o_assign rfl) ?_; refine nq ?_; refine tc_seq ?_; refine sr ?_; refine tl_pre (fun _ _ h => sl_nil (k := 1) h) ?_; refine tv (o_assign rfl) ?_; refine nq ?_; refine tc_block ?_; refine tc_loop (fun k ρ B => ∃ (i : Nat) (v : Value), i ≤ xs.length ∧ k = xs.length - i ∧ ρ 0 = .slice a xs.length c ∧ ρ 3 = v ∧ ρ 4 = .int .i64 (i : Nat) ∧ B = A * Sl 1 v i (ints (xs.take i))) (m := xs.length) ?_ ?_
  · exact ⟨0, .slice none 0 0, by omega, rfl, rfl, rfl, rfl, rfl⟩
  · intro k ρ B hI
    obtain ⟨i, v, hi, rfl, h0, h3, h4, rfl⟩ := hI
    refine tc_env (d := 0) h0 ?_; refine tc_env (d := 3) h3 ?_; refine tc_env (d := 4) h4 ?_; refine tc_seq ?_; refine sr ?_; refine tv (o_move rfl) ?_; refine tv (o_move rfl) ?_; refine tv (o_len Tryz.underlying26 rfl) ?_; refine tv (o_lss rfl rfl) ?_; refine nq ?_; refine tc_cond rfl (fun h => ?_) (fun h => ?_)
    · simp only [decide_eq_true_eq] at h
      have hi' : i < xs.length := by omega
      obtain ⟨b, o, rfl, hc⟩ := hr.some (by rw [ints_length]; omega)
      have g1 := hc i _ (ints_at hi')
      refine tc_skip ?_; refine q_then_n ?_; refine tc_seq ?_; refine tc_block ?_; refine tc_reg ?_; refine tv (o_move rfl) ?_; refine tv (o_move rfl) ?_; refine tv (o_move rfl) ?_; refine tv (o_indexAddrN1 (j := i) Tryz.underlying26 sz3 rfl rfl (by omega)) ?_; refine tv (o_loadC p3 rfl g1.left) ?_; refine tl_x rfl (o_buildSlice1 (v := .int .i64 xs[i]) Tryz.underlying26 sz3 z3 rfl rfl) ?_; rintro _ _ ⟨b16, rfl, rfl⟩; refine tl_x rfl (o_append1 Tryz.underlying26 Tryz.underlying26 sz3 by3 z3 rfl (by decide) (by decide) rfl rfl rfl rfl rfl (by omega)) ?_; rintro u17 _ rfl; refine tv (o_assign rfl) ?_; refine tl_nil ?_; refine q_block_n (q_then_n ?_); refine tc_reg ?_; refine tv (o_move rfl) ?_; refine tv (by first | exact o_addI rfl rfl (by omega) | exact o_add rfl rfl) ?_; refine tv (o_assign rfl) ?_; refine nq ?_; exact ⟨_, by omega, i + 1, u17, by omega, rfl, rfl, rfl, rfl, by rw [List.take_succ_eq_append_getElem hi']; unfold ints; rw [List.map_append]; rfl⟩
    · try simp only [lv1, lv2, lv3, lv4, lv5, lv6, Bool.not_true, Bool.not_false] at h
      refine tc_exit ?_; refine q_then_e (q_then_e (q_block_x (q_then_n ?_))); refine sr ?_; refine tv (o_move rfl) ?_; refine tv (o_assign rfl) ?_; refine nq ?_; refine tc_ret ?_
      obtain rfl : i = xs.length := by omega
      rw [List.take_length]
      exact ⟨v, res1 rfl rfl, rfl⟩
end Go.Vl

namespace Go.Vl
open Go Go.Proofs
section
variable {F : SP} {d : Nat} {s : DevS}
theorem OffD_f : Fn Tryz.prog 58 #[.pointer (some ⟨d, 0, none⟩)] (F * Dev d s) (fun r B => r = .bool s.off ∧ F * Dev d s = B) :=
  fn_devR0 fun _ A bl svs av hR => Off_f A d bl s.ls.length s av hR.d hR.wf.pos hR.wf.top
theorem LoadD_f {p m : Nat} {W : List Nat} (hoff : s.off = false) (hpm : p + m ≤ s.ls.length * 64) (hW : W = ((imgS s).drop p).take m) :
    Fn Tryz.prog 110 #[.pointer (some ⟨d, 0, none⟩), .int .i64 (p : Nat), .int .i64 (m : Nat)] (F * Dev d s) (fun r B => ∃ X, B = F * Dev d s * X ∧ ∃ u, r = .tuple #[u, .int .i64 0] ∧ X = Sl 1 u m (bys W)) :=
  fn_devR fun _ A bl svs av hR => Load_f A d bl svs av s p m W hR hoff hpm hW
end
def aw1 : DevS := (st8 0 257 (newS 2)).2
def aw2 : DevS := (fl1 3 aw1).2
def aw3 : DevS := (st8 8 5 aw2).2
def aw4 : DevS := (fe aw3).2
def aw5 : DevS := goesS [] aw4
def aw6 : DevS := { aw5 with off := false }
def awB : List Nat := [1, 1, 0, 0, 0, 0, 0, 0, 0, 0, 0, 0, 0, 0, 0, 0]
end Go.Vl

namespace Go.Vl
open Go Go.Proofs
/-- A device and its book. -/
structure PlS where
  s : DevS
  seen : List Nat
  held : List (List Nat)
  last : List Nat
  sure : List Bool
  marks : List Int
def wi (p : Int) (n : Nat) : Nat := (p % (n : Int)).toNat
def lastF (marks : List Int) (seen : List Nat) : Nat → Nat → Nat := fun i x => if marks.getD (i / 8) 0 = 1 then seen.getD i 0 else x
def sureF (marks : List Int) : Nat → Bool → Bool := fun i x => if marks.getD (i / 8) 0 = 1 then true else x
/-- One step without a loss of power, told. -/
def stepP (k p : Int) (v : Nat) (P : PlS) : Bool × PlS :=
  if k = 2 ∨ k = 3 then
    (decide ((st8 ((8 * wi p P.seen.length : Nat) : Int) v P.s).1 = 0), ⟨(st8 ((8 * wi p P.seen.length : Nat) : Int) v P.s).2, P.seen.set (wi p P.seen.length) v, P.held.set (wi p P.seen.length) (P.held.getD (wi p P.seen.length) [] ++ [v]), P.last,
      P.sure.set (wi p P.seen.length) false, if P.marks.getD (wi p P.seen.length / 8) 0 = 1 then P.marks.set (wi p P.seen.length / 8) 2 else P.marks⟩)
  else if k = 4 then (decide ((fl1 ((8 * wi p P.seen.length : Nat) : Int) P.s).1 = 0), { P with s := (fl1 ((8 * wi p P.seen.length : Nat) : Int) P.s).2, marks := P.marks.set (wi p P.seen.length / 8) 1 })
  else if k = 5 then (decide ((fe P.s).1 = 0), { P with s := (fe P.s).2, last := pm (lastF P.marks P.seen) P.seen.length P.last, sure := pm (sureF P.marks) P.seen.length P.sure, marks := pm (fun _ _ => 0) P.marks.length P.marks })
  else (true, P)
/-- The book's own cells. -/
def pcs (d : Nat) (sv hv lv uv mv : Value) : List Value := [.pointer (some ⟨d, 0, none⟩), sv, hv, lv, uv, mv]
structure WfP (r : Nat) (P : PlS) : Prop where
  pos : 0 < P.marks.length
  top : P.marks.length ≤ 4
  ls : P.s.ls.length = P.marks.length
  seen : P.seen.length = 8 * P.marks.length
  held : P.held.length = 8 * P.marks.length
  last : P.last.length = 8 * P.marks.length
  sure : P.sure.length = 8 * P.marks.length
  room : Room r P.s
  hroom : ∀ l ∈ P.held, l.length + r ≤ 2199023255552
end Go.Vl

namespace Go.Vl
open Go Go.Proofs
/-- No loss of power is planned, and none was. -/
structure Live (s : DevS) : Prop where
  off : s.off = false
  arms : s.arms = []
theorem rdy_ok {n : Nat} {p m : Int} (hp : 0 ≤ p) (hm : 0 ≤ m) (h : p + m ≤ n * 64) : rdy n false p m = 0 := by
  unfold rdy; rw [if_neg (by simp), if_neg (by omega)]
/-- A step's cells. -/
structure StepC where
  k : Int
  q : Int
  nv : Value
  v : Nat
  dv : Value
  kv : Value
  av : Value
def StepC.cells (t : StepC) : List Value := [.int .i64 t.k, .int .i64 t.q, t.nv, .int .u64 (t.v : Nat), t.dv, t.kv, t.av]
def scs (l : List StepC) : List Value := l.flatMap StepC.cells
def playL (l : List StepC) (P : PlS) : PlS := l.foldl (fun P t => (stepP t.k t.q t.v P).2) P
def begS (n : Nat) : PlS := ⟨newS n, List.replicate (8 * n) 0, List.replicate (8 * n) [0], List.replicate (8 * n) 0, List.replicate (8 * n) true, List.replicate n 0⟩
end Go.Vl

namespace Go.Vl
open Go Go.Proofs
/-- Lists of bytes, to be read. -/
def RdRows (A : SP) (a : Option Addr) (ls : List (List Nat)) : Prop := ∃ vs : List Value, vs.length = ls.length ∧ Rd A a vs ∧ ∀ i (h : i < ls.length), ∃ b c, vs[i]? = some (.slice b ls[i].length c) ∧ Rd A b (bys ls[i])
theorem RdRows.left {A X : SP} {a : Option Addr} {ls : List (List Nat)} (h : RdRows A a ls) : RdRows (A * X) a ls := by
  obtain ⟨vs, h1, h2, h3⟩ := h
  exact ⟨vs, h1, h2.left, fun i hi => by obtain ⟨b, c, e, hr⟩ := h3 i hi; exact ⟨b, c, e, hr.left⟩⟩
theorem RdRows.pre {A B : SP} {a : Option Addr} {ls : List (List Nat)} (h : RdRows A a ls) (k : ∀ g w, sat g w B → sat g w A) : RdRows B a ls := by
  obtain ⟨vs, h1, h2, h3⟩ := h
  exact ⟨vs, h1, h2.pre k, fun i hi => by obtain ⟨b, c, e, hr⟩ := h3 i hi; exact ⟨b, c, e, hr.pre k⟩⟩
theorem parts_get : ∀ {vs : List Value} {ls : List (List Nat)} {i : Nat} (h : vs.length = ls.length) (hi : i < ls.length),
    ∃ R, Parts vs ls = R * Sl 1 (vs[i]'(by omega)) ls[i].length (bys ls[i]) ∧ ∀ v l, Parts (vs.set i v) (ls.set i l) = R * Sl 1 v l.length (bys l)
  | [], [], _, _, hi => by simp at hi
  | v :: vs, l :: ls, 0, h, _ => ⟨Parts vs ls, rfl, fun _ _ => rfl⟩
  | v :: vs, l :: ls, i + 1, h, hi => by
    obtain ⟨R, h1, h2⟩ := parts_get (vs := vs) (ls := ls) (i := i) (by simpa using h) (by simpa using hi)
    refine ⟨R * Sl 1 v l.length (bys l), ?_, fun u m => ?_⟩
    · simp only [Parts, List.getElem_cons_succ]; rw [h1, star_swap]
    · simp only [List.set_cons_succ, Parts]; rw [h2, star_swap]
theorem Foc.parts {A A' : SP} {hvs : List Value} {held : List (List Nat)} (h : Foc A (Parts hvs held) (Parts hvs held) A') (hl : hvs.length = held.length) {g : Gh} {w : World} (hs : sat g w A) :
    ∀ i (hi : i < held.length), ∃ a c, hvs[i]? = some (.slice a held[i].length c) ∧ held[i].length ≤ c ∧ Rd (Parts hvs held) a (bys held[i]) := fun i hi => by
  obtain ⟨R, rfl, _⟩ := h
  obtain ⟨S, h1, _⟩ := parts_get hl hi
  have hs2 := hs.right
  obtain ⟨a, c, e, hle, _, hr⟩ := sl_have' h1 hs2
  exact ⟨a, c, by rw [List.getElem?_eq_getElem (by omega), e], hle, hr⟩
end Go.Vl

namespace Go.Vl
open Go Go.Proofs
theorem slb_snoc {A : SP} {u : Value} {l : List Nat} {x : Nat} : A * Sl 1 u (l.length + 1) (bys l ++ [.int .u8 (x : Int)]) = A * Sl 1 u (l ++ [x]).length (bys (l ++ [x])) := by
  rw [bys_append, List.length_append]; rfl
theorem CopyBytes_f (A : SP) (a : Option Addr) (c : Nat) (xs : List Nat) (hr : Rd A a (bys xs)) (hl : xs.length ≤ 140737488351232) :
    Fn Tryz.prog 52 #[.slice a xs.length c] (A) (fun r B => B = A * Sl 1 r xs.length (bys xs)) := by
  refine fn_enter (args := [.slice a xs.length c]) Tryz.func52 rfl Tryz.ntmps52 (by simp) ?_; refine sr ?_; refine tv (o_assign rfl) ?_; refine nq ?_; refine sr ?_; refine tv (o_move rfl) ?_; refine tv (o_len Tryz.underlying57 rfl) ?_; refine tl_x rfl (o_makeSlice (len := 0) (cap := xs.length) Tryz.underlying57 sz5 by5 z5 rfl rfl rfl (by omega) (by omega) (by omega)) ?_; rintro _ _ ⟨b7, rfl, rfl⟩; refine tl_pre (fun _ _ h => sl_new (k := 1) (n := 0) (cap := xs.length) (xs := []) h (by omega) (by simp) (by simp)) ?_; refine tv (o_assign rfl) ?_; refine nq ?_; refine tc_seq ?_; refine sr ?_; refine tv (o_assign rfl) ?_; refine nq ?_; refine tc_block ?_; refine tc_loop (fun kk ρ BB => ∃ (i : Nat) (v : Value), (i ≤ xs.length) ∧ kk = xs.length - i ∧ ρ 0 = .slice a xs.length c ∧ ρ 3 = v ∧ ρ 4 = .int .i64 (i : Nat) ∧ BB = A * Sl 1 v (xs.take i).length (bys (xs.take i))) (m := xs.length - (0)) ?_ ?_
  · exact ⟨0, _, by omega, rfl, rfl, rfl, rfl, rfl⟩
  · intro k ρ B hI
    obtain ⟨i, v, hp0, rfl, hs0, hs3, hs4, rfl⟩ := hI
    refine tc_env (d := 0) hs0 ?_; refine tc_env (d := 3) hs3 ?_; refine tc_env (d := 4) hs4 ?_; refine tc_seq ?_; refine sr ?_; refine tv (o_move rfl) ?_; refine tv (o_move rfl) ?_; refine tv (o_len Tryz.underlying57 rfl) ?_; refine tv (o_lss rfl rfl) ?_; refine nq ?_; refine tc_cond rfl (fun h => ?_) (fun h => ?_)
    · simp only [decide_eq_true_eq] at h
      have hi' : i < xs.length := by omega
      obtain ⟨b, o, rfl, hc⟩ := hr.some (by rw [bys_length]; omega)
      have g1 := hc i _ (bys_at hi')
      refine tc_skip ?_; refine q_then_n ?_; refine tc_seq ?_; refine tc_block ?_; refine tc_reg ?_; refine tv (o_move rfl) ?_; refine tv (o_move rfl) ?_; refine tv (o_move rfl) ?_; refine tv (o_indexAddrN1 (j := i) Tryz.underlying57 sz5 rfl rfl (by omega)) ?_; refine tv (o_loadC p5 rfl g1.left) ?_; refine tl_x rfl (o_buildSlice1 (v := .int .u8 (xs[i] : Nat)) Tryz.underlying57 sz5 z5 rfl rfl) ?_; rintro _ _ ⟨b19, rfl, rfl⟩; refine tl_x rfl (o_append1 Tryz.underlying57 Tryz.underlying57 sz5 by5 z5 rfl (by decide) (by decide) rfl rfl rfl rfl rfl (by rw [List.length_take]; omega)) ?_; rintro u20 _ rfl; refine tv (o_assign rfl) ?_; refine tl_nil ?_; refine q_block_n (q_then_n ?_); refine tc_reg ?_; refine tv (o_move rfl) ?_; refine tv (by first | exact o_addI rfl rfl (by omega) | exact o_add rfl rfl) ?_; refine tv (o_assign rfl) ?_; refine nq ?_; exact ⟨_, by omega, i + 1, u20, by omega, rfl, rfl, rfl, rfl, by rw [List.take_succ_eq_append_getElem hi', ← slb_snoc]⟩
    · try simp only [lv1, lv2, lv3, lv4, lv5, lv6, Bool.not_true, Bool.not_false] at h
      refine tc_exit ?_; refine q_then_e (q_then_e (q_block_x (q_then_n ?_))); refine sr ?_; refine tv (o_move rfl) ?_; refine tv (o_assign rfl) ?_; refine nq ?_; refine tc_ret ?_
      obtain rfl : i = xs.length := by omega
      rw [List.take_length]
      exact ⟨v, res1 rfl rfl, rfl⟩
theorem Join_f (A : SP) (a : Option Addr) (c : Nat) (ls : List (List Nat)) (hr : RdRows A a ls) (hl : ls.flatten.length ≤ 17592186044416) (hl2 : ls.length ≤ 17592186044416) :
    Fn Tryz.prog 234 #[.slice a ls.length c] (A) (fun r B => B = A * Sl 1 r ls.flatten.length (bys ls.flatten)) := by
  refine fn_enter (args := [.slice a ls.length c]) Tryz.func234 rfl Tryz.ntmps234 (by simp) ?_
  obtain ⟨vs, hvl, hra, hrows⟩ := hr
  refine sr ?_; refine tv (o_assign rfl) ?_; refine nq ?_; refine sr ?_; refine tv (o_assign rfl) ?_; refine nq ?_; refine tc_seq ?_; refine sr ?_; refine tl_pre (fun _ _ h => sl_nil (k := 1) h) ?_; refine tv (o_assign rfl) ?_; refine nq ?_; refine tc_block ?_; refine tc_loop (fun kk ρ BB => ∃ (i : Nat) (v : Value), (i ≤ ls.length) ∧ kk = ls.length - i ∧ ρ 0 = .slice a ls.length c ∧ ρ 3 = v ∧ ρ 4 = .int .i64 (i : Nat) ∧ BB = A * Sl 1 v (ls.take i).flatten.length (bys (ls.take i).flatten)) (m := ls.length - (0)) ?_ ?_
  · exact ⟨0, _, by omega, rfl, rfl, rfl, rfl, rfl⟩
  · intro k ρ B hI
    obtain ⟨i, v, hp0, rfl, hs0, hs3, hs4, rfl⟩ := hI
    refine tc_env (d := 0) hs0 ?_; refine tc_env (d := 3) hs3 ?_; refine tc_env (d := 4) hs4 ?_; refine tc_seq ?_; refine sr ?_; refine tv (o_move rfl) ?_; refine tv (o_move rfl) ?_; refine tv (o_len Tryz.underlying41 rfl) ?_; refine tv (o_lss rfl rfl) ?_; refine nq ?_; refine tc_cond rfl (fun h => ?_) (fun h => ?_)
    · simp only [decide_eq_true_eq] at h
      have hi' : i < ls.length := by omega
      obtain ⟨b, o, rfl, hc⟩ := hra.some (by omega)
      obtain ⟨bi, ci, e1, hri⟩ := hrows i hi'
      have g1 := hc i _ e1
      have hfl : (ls.take i).flatten.length + ls[i].length ≤ ls.flatten.length := by
        have e := List.take_append_drop i ls
        have e2 : ls.flatten.length = (ls.take i).flatten.length + (ls.drop i).flatten.length := by rw [← List.length_append, ← List.flatten_append, e]
        rw [e2, List.drop_eq_getElem_cons hi', List.flatten_cons, List.length_append]; omega
      refine tc_skip ?_; refine q_then_n ?_; refine tc_seq ?_; refine tc_block ?_; refine sr ?_; refine tv (o_assign rfl) ?_; refine nq ?_; refine tc_block ?_; refine tc_loop (fun kk ρ BB => ∃ (j : Nat) (u : Value), (j ≤ ls[i].length) ∧ kk = ls[i].length - j ∧ ρ 0 = .slice (some ⟨b, o, none⟩) ls.length c ∧ ρ 3 = u ∧ ρ 4 = .int .i64 (i : Nat) ∧ ρ 5 = .int .i64 (j : Nat) ∧ BB = A * Sl 1 u ((ls.take i).flatten ++ ls[i].take j).length (bys ((ls.take i).flatten ++ ls[i].take j))) (m := ls[i].length - (0)) ?_ ?_
      · exact ⟨0, v, by omega, rfl, rfl, rfl, rfl, rfl, by rw [List.take_zero, List.append_nil]⟩
      · intro k ρ B hI
        obtain ⟨j, u, hp0, rfl, hs0, hs3, hs4, hs5, rfl⟩ := hI
        refine tc_env (d := 0) hs0 ?_; refine tc_env (d := 3) hs3 ?_; refine tc_env (d := 4) hs4 ?_; refine tc_env (d := 5) hs5 ?_; refine tc_seq ?_; refine sr ?_; refine tv (o_move rfl) ?_; refine tv (o_move rfl) ?_; refine tv (o_move rfl) ?_; refine tv (o_indexAddrN1 (j := i) Tryz.underlying41 sz57 rfl rfl (by omega)) ?_; refine tv (o_loadC p57 rfl g1.left) ?_; refine tv (o_len Tryz.underlying57 rfl) ?_; refine tv (o_lss rfl rfl) ?_; refine nq ?_; refine tc_cond rfl (fun h => ?_) (fun h => ?_)
        · simp only [decide_eq_true_eq] at h
          have hj' : j < ls[i].length := by omega
          obtain ⟨bb, oo, rfl, hcc⟩ := hri.some (by rw [bys_length]; omega)
          have g2 := hcc j _ (bys_at hj')
          refine tc_skip ?_; refine q_then_n ?_; refine tc_seq ?_; refine tc_block ?_; refine tc_reg ?_; refine tv (o_move rfl) ?_; refine tv (o_move rfl) ?_; refine tv (o_move rfl) ?_; refine tv (o_indexAddrN1 (j := i) Tryz.underlying41 sz57 rfl rfl (by omega)) ?_; refine tv (o_loadC p57 rfl g1.left) ?_; refine tv (o_move rfl) ?_; refine tv (o_indexAddrN1 (j := j) Tryz.underlying57 sz5 rfl rfl (by omega)) ?_; refine tv (o_loadC p5 rfl g2.left) ?_; refine tl_x rfl (o_buildSlice1 (v := .int .u8 (ls[i][j] : Nat)) Tryz.underlying57 sz5 z5 rfl rfl) ?_; rintro _ _ ⟨b29, rfl, rfl⟩; refine tl_x rfl (o_append1 Tryz.underlying57 Tryz.underlying57 sz5 by5 z5 rfl (by decide) (by decide) rfl rfl rfl rfl rfl (by rw [List.length_append, List.length_take]; omega)) ?_; rintro u30 _ rfl; refine tv (o_assign rfl) ?_; refine tl_nil ?_; refine q_block_n (q_then_n ?_); refine tc_reg ?_; refine tv (o_move rfl) ?_; refine tv (by first | exact o_addI rfl rfl (by omega) | exact o_add rfl rfl) ?_; refine tv (o_assign rfl) ?_; refine nq ?_; exact ⟨_, by omega, j + 1, u30, by omega, rfl, rfl, rfl, rfl, rfl, by rw [List.take_succ_eq_append_getElem hj', ← List.append_assoc, ← slb_snoc]⟩
        · simp only [decide_eq_false_iff_not] at h
          obtain rfl : j = ls[i].length := by omega
          rw [List.take_length]
          refine tc_exit ?_; refine q_then_e (q_then_e (q_block_x (q_block_n (q_then_n ?_)))); refine tc_reg ?_; refine tv (o_move rfl) ?_; refine tv (by first | exact o_addI rfl rfl (by omega) | exact o_add rfl rfl) ?_; refine tv (o_assign rfl) ?_; refine nq ?_; exact ⟨_, by omega, i + 1, u, by omega, rfl, rfl, rfl, rfl, by rw [List.take_succ_eq_append_getElem hi', List.flatten_append, List.flatten_singleton]⟩
    · try simp only [lv1, lv2, lv3, lv4, lv5, lv6, Bool.not_true, Bool.not_false] at h
      refine tc_exit ?_; refine q_then_e (q_then_e (q_block_x (q_then_n ?_))); refine sr ?_; refine tv (o_move rfl) ?_; refine tv (o_assign rfl) ?_; refine nq ?_; refine tc_ret ?_
      obtain rfl : i = ls.length := by omega
      rw [List.take_length]
      exact ⟨v, res1 rfl rfl, rfl⟩
theorem JoinN_f (A : SP) (a : Option Addr) (c n : Nat) (ls : List (List Nat)) (hr : RdRows A a ls) (hl : ls.flatten.length ≤ 17592186044416) (hl2 : ls.length ≤ 17592186044416) (hn : ls.length = n) :
    Fn Tryz.prog 234 #[.slice a n c] A (fun r B => B = A * Sl 1 r ls.flatten.length (bys ls.flatten)) := by subst hn; exact Join_f A a c ls hr hl hl2
end Go.Vl

namespace Go.Vl
open Go Go.Proofs
/-- A line of bytes. -/
def wordF (xs : List Nat) (i k : Nat) : Nat := nm ((xs.drop (i * 64 + k * 8)).take 8)
def lineF (xs : List Nat) (i : Nat) : LineS := ⟨[(List.replicate 8 0).mapIdx fun k _ => wordF xs i k], -1⟩
/-- A device of bytes. -/
def fromS (n : Nat) (xs : List Nat) : DevS := { newS n with ls := (newS n).ls.mapIdx fun i _ => lineF xs i }
theorem take8_lt {xs : List Nat} (hb : ∀ x ∈ xs, x < 256) (p : Nat) : nm ((xs.drop p).take 8) < 18446744073709551616 := by
  have h1 := nm_lt ((xs.drop p).take 8) fun x hx => hb x (List.mem_of_mem_drop (List.mem_of_mem_take hx))
  have h2 : ((xs.drop p).take 8).length ≤ 8 := by rw [List.length_take]; omega
  have h3 := Nat.pow_le_pow_right (show 0 < 256 by decide) h2
  have : (256 : Nat) ^ 8 = 18446744073709551616 := by decide
  omega
theorem lineF_wf {xs : List Nat} (hb : ∀ x ∈ xs, x < 256) (i : Nat) : WfL (lineF xs i) := by
  refine ⟨by simp [lineF], ?_, by simp [lineF], by simp [lineF], by simp [lineF], ?_⟩
  · intro s hs
    simp only [lineF, List.mem_singleton] at hs; subst hs; simp
  · intro s hs x hx
    simp only [lineF, List.mem_singleton] at hs; subst hs
    obtain ⟨j, hj, rfl⟩ := List.mem_iff_getElem.1 hx
    rw [List.getElem_mapIdx]; exact take8_lt hb _
theorem fromS_wf {n : Nat} {xs : List Nat} (h : 0 < n) (h2 : n ≤ 65536) (hb : ∀ x ∈ xs, x < 256) : WfD (fromS n xs) :=
  ⟨by simp [fromS, newS]; exact h, by simp [fromS, newS]; exact h2, fun l hl => by
    obtain ⟨j, hj, rfl⟩ := List.mem_iff_getElem.1 hl
    simp only [fromS, List.getElem_mapIdx]; exact lineF_wf hb _, by simp [fromS, newS], by simp [fromS, newS], by simp [fromS, newS]⟩
/-- Bytes laid over others. -/
def spl {α : Type} (l : List α) (p : Nat) (b : List α) : List α := l.take p ++ b ++ l.drop (p + b.length)
theorem spl_length {α : Type} {l b : List α} {p : Nat} (h : p + b.length ≤ l.length) : (spl l p b).length = l.length := by
  simp only [spl, List.length_append, List.length_take, List.length_drop]; omega
theorem spl_at {α : Type} {l b : List α} {p i : Nat} (h : p + b.length ≤ l.length) : (spl l p b)[i]? = if p ≤ i ∧ i < p + b.length then b[i - p]? else l[i]? := by
  unfold spl
  by_cases h1 : i < p
  · rw [if_neg (by omega), List.append_assoc, List.getElem?_append_left (by simp; omega), List.getElem?_take, if_pos h1]
  · by_cases h2 : i < p + b.length
    · rw [if_pos (by omega), List.append_assoc, List.getElem?_append_right (by simp; omega), List.getElem?_append_left (by simp; omega)]
      congr 1; simp; omega
    · rw [if_neg (by omega), List.getElem?_append_right (by simp; omega), List.getElem?_drop]
      congr 1; simp; omega
/-- A word's bytes with some of them laid over. -/
def stW (p : Nat) (b : List Nat) (s : DevS) : List Nat := spl (le 8 ((seenL (s.ls.getD (p / 64) zline)).getD (p % 64 / 8) 0)) (p % 8) (b.take (8 - p % 8))
def storeF : Nat → Nat → List Nat → DevS → Int × DevS
  | 0, _, _, s => (0, s)
  | f + 1, p, b, s => if b = [] then (0, s) else
    if doneE (layS (p - p % 8) (nm (stW p b s)) s) ≠ 0 then (doneE (layS (p - p % 8) (nm (stW p b s)) s), doneS (layS (p - p % 8) (nm (stW p b s)) s))
    else storeF f (p + min (8 - p % 8) b.length) (b.drop (8 - p % 8)) (doneS (layS (p - p % 8) (nm (stW p b s)) s))
/-- What Store answers, and the device behind it. -/
def sto (p : Int) (b : List Nat) (s : DevS) : Int × DevS := if rdy s.ls.length s.off p b.length ≠ 0 then (rdy s.ls.length s.off p b.length, s) else storeF b.length p.toNat b s
end Go.Vl

namespace Go.Vl
open Go Go.Proofs
/-- What a slice that is made looks like. -/
theorem fn_sl {P : Program} {f : FuncId} {args : Array Value} {A A0 : SP} {k n : Nat} {xs : List Value} (h : Fn P f args A (fun r B => B = A0 * Sl k r n xs)) : Fn P f args A (fun r B => ∃ a c, r = .slice a n c ∧ n ≤ c ∧ B = A0 * Sl k (.slice a n c) n xs) := fun g w hs => by
  refine (h g w hs).mono ?_; rintro e w' ⟨v, B, rfl, rfl, hB⟩
  obtain ⟨a, c, rfl, h1, _⟩ := sl_have hB
  exact ⟨_, _, rfl, ⟨a, c, rfl, h1, rfl⟩, hB⟩
theorem ql_env {P : Program} {n : Nat} {ops : Array Oper} {A : SP} {K : Env → Prop} {l : List Oper} {ρ : Env} {d : Nat} {v : Value} (h : ρ d = v) (k : QL P n ops A K l (upd ρ d v)) : QL P n ops A K l ρ := by
  rw [← env_set h] at k; exact k
theorem Off_c {A R : SP} {C : SP → SP} {d : Nat} {s : DevS} (hc : Ct A (Dev d s) R C := by repeat (first | with_reducible exact ct_here | apply ct_left))  :
    Fn Tryz.prog 58 #[.pointer (some ⟨d, 0, none⟩)] A (fun r B => r = .bool s.off ∧ A = B) := by
  obtain ⟨rfl, hC⟩ := hc
  exact OffD_f
/-- What Crash answers, and the device behind it. -/
def crS (keep : List Int) (s : DevS) : Int × DevS := if s.off then (5, s) else if lowB keep then (2, s) else (0, goesS keep s)
theorem Load_c {A R : SP} {C : SP → SP} {d : Nat} {s : DevS} (hc : Ct A (Dev d s) R C := by repeat (first | with_reducible exact ct_here | apply ct_left)) {p m : Nat} (hoff : s.off = false := by assumption) (hpm : p + m ≤ s.ls.length * 64 := by omega) :
    Fn Tryz.prog 110 #[.pointer (some ⟨d, 0, none⟩), .int .i64 (p : Nat), .int .i64 (m : Nat)] A (fun r B => ∃ a c, r = .tuple #[.slice a m c, .int .i64 0] ∧ m ≤ c ∧ B = A * Sl 1 (.slice a m c) m (bys (((imgS s).drop p).take m))) := by
  obtain ⟨rfl, hC⟩ := hc
  refine fun g w hs => (LoadD_f (F := R) (d := d) hoff hpm rfl g w hs).mono ?_; rintro e w' ⟨v, B, rfl, ⟨X, rfl, u, rfl, rfl⟩, hB⟩
  obtain ⟨a, c, rfl, h1, _⟩ := sl_have hB
  exact ⟨_, _, rfl, ⟨a, c, rfl, h1, rfl⟩, hB⟩
theorem LoadNo_c {A R : SP} {C : SP → SP} {d : Nat} {s : DevS} (hc : Ct A (Dev d s) R C := by repeat (first | with_reducible exact ct_here | apply ct_left)) {p m : Int} (hp : -9223372036854775808 ≤ p ∧ p ≤ 9223372036854775807 := by omega) (hm : -9223372036854775808 ≤ m ∧ m ≤ 9223372036854775807 := by omega) (hno : rdy s.ls.length s.off p m ≠ 0 := by assumption) :
    Fn Tryz.prog 110 #[.pointer (some ⟨d, 0, none⟩), .int .i64 p, .int .i64 m] A (fun r B => r = .tuple #[.slice none 0 0, .int .i64 (rdy s.ls.length s.off p m)] ∧ A = B) := by
  obtain ⟨rfl, hC⟩ := hc
  exact fn_devR0 fun _ A bl svs av hR => LoadNo_f A d bl svs av s hR p m hp hm hno
theorem New_c {A : SP} {n : Nat} {v : Int} (hv : v = ((n * 64 : Nat) : Int) := by omega) (hn : 0 < n := by omega) (hn2 : n ≤ 65536 := by omega) : Fn Tryz.prog 37 #[.int .i64 v] A (fun r B => ∃ d, r = .tuple #[.pointer (some ⟨d, 0, none⟩), .int .i64 0] ∧ B = A * Dev d (newS n)) := by
  subst hv; exact New_f A n hn hn2
theorem CopyInts_c {A : SP} {a : Option Addr} {c m : Nat} {xs : List Int} (hr : Rs A a (ints xs) := by repeat (first | assumption | with_reducible exact rs_sl | with_reducible exact rs_pt0 | exact rs_none | apply Rs.left)) (hm : xs.length = m := by first | assumption | rfl) (hl : m ≤ 17592186044416 := by omega) :
    Fn Tryz.prog 80 #[.slice a m c] A (fun r B => ∃ a' c', r = .slice a' m c' ∧ m ≤ c' ∧ B = A * Sl 1 (.slice a' m c') m (ints xs)) := by
  subst hm; exact fn_rs hr fun hr => fn_sl (CopyInts_f A a c xs hr hl)
theorem CopyBytes_c {A : SP} {a : Option Addr} {c m : Nat} {xs : List Nat} (hr : Rs A a (bys xs) := by repeat (first | assumption | with_reducible exact rs_sl | with_reducible exact rs_pt0 | exact rs_none | apply Rs.left)) (hm : xs.length = m := by first | assumption | rfl) (hl : m ≤ 140737488351232 := by omega) :
    Fn Tryz.prog 52 #[.slice a m c] A (fun r B => ∃ a' c', r = .slice a' m c' ∧ m ≤ c' ∧ B = A * Sl 1 (.slice a' m c') m (bys xs)) := by
  subst hm; exact fn_rs hr fun hr => fn_sl (CopyBytes_f A a c xs hr hl)
theorem EqBytes_c {A : SP} {a1 a2 : Option Addr} {c1 c2 n m : Nat} {xs ys : List Nat} (h1 : Rs A a1 (bys xs) := by repeat (first | assumption | with_reducible exact rs_sl | with_reducible exact rs_pt0 | exact rs_none | apply Rs.left)) (h2 : Rs A a2 (bys ys) := by repeat (first | assumption | with_reducible exact rs_sl | with_reducible exact rs_pt0 | exact rs_none | apply Rs.left)) (hx : xs.length = n := by first | assumption | rfl) (hy : ys.length = m := by first | assumption | rfl) (hn : n ≤ 4611686018427387904 := by omega) (hm : m ≤ 4611686018427387904 := by omega) :
    Fn Tryz.prog 60 #[.slice a1 n c1, .slice a2 m c2] A (fun r B => r = .bool (decide (xs = ys)) ∧ A = B) := by
  subst hx hy; exact fn_rs h1 fun h1 => fn_rs h2 fun h2 => EqBytes_f A a1 a2 c1 c2 xs ys h1 h2 hn hm
theorem Take64_c {A : SP} {a : Option Addr} {c m : Nat} {xs : List Nat} {p : Nat} (hr : Rs A a (bys xs) := by repeat (first | assumption | with_reducible exact rs_sl | with_reducible exact rs_pt0 | exact rs_none | apply Rs.left)) (hb : ∀ x ∈ xs, x < 256 := by assumption) (hm : xs.length = m := by first | assumption | rfl) (hp : p + 8 ≤ m := by omega) (hl : m ≤ 1099511627776 := by omega) :
    Fn Tryz.prog 114 #[.slice a m c, .int .i64 (p : Nat)] A (fun r B => r = .tuple #[.int .u64 ((nm ((xs.drop p).take 8) : Nat) : Int), .int .i64 0] ∧ A = B) := by
  subst hm; exact fn_rs hr fun hr => Take64_f A a c xs p hb hr hp hl
theorem Put64_c {A : SP} {a : Option Addr} {c m : Nat} {xs : List Nat} {v : Nat} (hr : Rs A a (bys xs) := by repeat (first | assumption | with_reducible exact rs_sl | with_reducible exact rs_pt0 | exact rs_none | apply Rs.left)) (hm : xs.length = m := by first | assumption | rfl) (hv : v < 18446744073709551616 := by omega) (hl : m ≤ 1099511627776 := by omega) :
    Fn Tryz.prog 169 #[.slice a m c, .int .u64 (v : Nat)] A (fun r B => ∃ a' c', r = .slice a' (m + 8) c' ∧ m + 8 ≤ c' ∧ B = A * Sl 1 (.slice a' (m + 8) c') (m + 8) (bys (xs ++ le 8 v))) := by
  subst hm; exact fn_rs hr fun hr => fn_sl ((Put64_f A a c xs v hr hv hl).mono fun _ _ ⟨u, e, h⟩ => by rw [e]; exact h)
end Go.Vl

namespace Go.Vl
open Go Go.Proofs
/-- A device of which some lines are laid. -/
def fromP (n : Nat) (xs : List Nat) (i : Nat) : DevS := { newS n with ls := pm (fun j _ => lineF xs j) i (newS n).ls }
theorem fromP_zero (n : Nat) (xs : List Nat) : fromP n xs 0 = newS n := by unfold fromP; rw [pm_zero]
theorem fromP_all (n : Nat) (xs : List Nat) : fromP n xs n = fromS n xs := by
  have h : (newS n).ls.length = n := by simp [newS]
  have := pm_all (fun j _ => lineF xs j) (newS n).ls
  rw [h] at this
  unfold fromP fromS; rw [this]
theorem fromP_len (n : Nat) (xs : List Nat) (i : Nat) : (fromP n xs i).ls.length = n := by simp [fromP, pm_length, newS]
theorem fromP_at {n : Nat} (xs : List Nat) {i : Nat} (h : i < n) : (fromP n xs i).ls[i]'(by rw [fromP_len]; exact h) = zline := by
  simp only [fromP]
  rw [pm_at _ (by simpa [newS] using h)]; simp [newS]
theorem fromP_set {n : Nat} (xs : List Nat) {i : Nat} (h : i < n) : { fromP n xs i with ls := (fromP n xs i).ls.set i (lineF xs i) } = fromP n xs (i + 1) := by
  have hl : i < (newS n).ls.length := by simpa [newS] using h
  have := pm_set (fun j _ => lineF xs j) hl
  unfold fromP; simp only [this]
theorem fromP_wf {n : Nat} {xs : List Nat} {i : Nat} (h : 0 < n) (h2 : n ≤ 65536) (hb : ∀ x ∈ xs, x < 256) : WfD (fromP n xs i) :=
  ⟨by rw [fromP_len]; exact h, by rw [fromP_len]; exact h2, fun l hl => by
    obtain ⟨j, hj, rfl⟩ := List.mem_iff_getElem.1 hl
    simp only [fromP, pm, List.getElem_mapIdx]
    split
    · exact lineF_wf hb _
    · simp only [newS, List.getElem_replicate]; exact zline_wf, by simp [fromP, newS], by simp [fromP, newS], by simp [fromP, newS]⟩
def lineW (xs : List Nat) (i k : Nat) : List Nat := pm (fun k _ => wordF xs i k) k (List.replicate 8 0)
theorem lineW_zero (xs : List Nat) (i : Nat) : lineW xs i 0 = List.replicate 8 0 := pm_zero _ _
theorem lineW_set (xs : List Nat) (i : Nat) {k : Nat} (h : k < 8) : (lineW xs i k).set k (wordF xs i k) = lineW xs i (k + 1) := by
  have := pm_set (fun k _ => wordF xs i k) (l := List.replicate 8 0) (k := k) (by simpa using h)
  exact this
theorem lineW_all (xs : List Nat) (i : Nat) : (⟨[lineW xs i 8], -1⟩ : LineS) = lineF xs i := by
  have := pm_all (fun k _ => wordF xs i k) (List.replicate 8 0)
  rw [List.length_replicate] at this
  unfold lineF lineW; rw [this]
theorem From_c {F : SP} {a : Option Addr} {c m : Nat} {xs : List Nat} (n : Nat) (hr : Rs F a (bys xs) := by repeat (first | assumption | with_reducible exact rs_sl | with_reducible exact rs_pt0 | exact rs_none | apply Rs.left)) (hx : xs.length = m := by first | assumption | rfl) (hm : m = n * 64 := by omega) (hb : ∀ x ∈ xs, x < 256 := by assumption) (hn : 0 < n := by omega) (hn2 : n ≤ 65536 := by omega) :
    Fn Tryz.prog 51 #[.slice a m c] (F) (fun r B => ∃ d, r = .tuple #[.pointer (some ⟨d, 0, none⟩), .int .i64 0] ∧ B = F * Dev d (fromS n xs)) := by
  refine fn_enterW (args := [.slice a m c]) Tryz.func51 rfl Tryz.ntmps51 (by simp) ?_; refine sr ?_; refine tla ?_; refine tla ?_; refine nq ?_; refine sr ?_; refine tlm ?_; refine tv (o_len Tryz.underlying57 rfl) ?_; refine tl_c rfl (o_call bd37 rfl (New_c (n := n))) ?_; rintro _ _ ⟨d12, rfl, rfl⟩; refine tlm ?_; refine tv (o_extract rfl rfl) ?_; refine tv (o_extract rfl rfl) ?_; refine tla ?_; refine tla ?_; refine nq ?_; refine tc_seq ?_; refine sr ?_; refine tlm ?_; refine tv (o_nei rfl rfl) ?_; refine nq ?_; refine tc_cond rfl (fun h => ?_) (fun h => ?_)
  · (exfalso; first | (revert h; simp; done) | (simp at h; done) | (revert h; simp; omega) | (simp at h; omega) | omega)
  · try simp only [lv1, lv2, lv3, lv4, lv5, lv6, Bool.not_true, Bool.not_false] at h
    refine tc_skip ?_; refine q_then_n ?_; refine tc_seq ?_; refine sr ?_; refine tlm ?_; refine tv (o_nilCheck rfl) ?_; refine tv (o_fieldAddr (o := 0) Tryz.underlying97 rfl rfl sz94 rfl) ?_
    rw [← fromP_zero n xs]
    refine tl_dev fun hw bl svs av kvs hsv hkv => ?_; refine tv (o_load p94 rfl devC_d rfl) ?_; refine tv (o_len Tryz.underlying94 rfl) ?_
    rw [fromP_len]
    refine tl_pre (dev_back hw hsv hkv) ?_; refine tlm ?_; refine nq ?_; refine tc_block ?_; refine tc_loop (fun kk ρ BB => ∃ (i : Nat), (i ≤ n) ∧ kk = n - i ∧ ρ 23 = .int .i64 (i : Nat) ∧ ρ 0 = .slice a m c ∧ ρ 4 = .pointer (some ⟨d12, 0, none⟩) ∧ ρ 22 = .int .i64 (n : Nat) ∧ BB = F * Dev d12 (fromP n xs i)) (m := n - (0)) ?_ ?_
    · exact ⟨0, by omega, rfl, rfl, rfl, rfl, rfl, rfl⟩
    · intro k ρ B hI
      obtain ⟨i, hp0, hkk1, hE23, hE0, hE4, hE22, rfl⟩ := hI
      refine tc_env (d := 23) hE23 ?_; refine tc_env (d := 0) hE0 ?_; refine tc_env (d := 4) hE4 ?_; refine tc_env (d := 22) hE22 ?_
      clear hE23 hE0 hE4 hE22
      refine sr ?_; refine tv (o_lss rfl rfl) ?_; refine nq ?_; refine tc_seq ?_; refine tc_cond rfl (fun h => ?_) (fun h => ?_)
      · try simp only [lv1, lv2, lv3, lv4, lv5, lv6, Bool.not_true, Bool.not_false] at h
        refine tc_skip ?_; refine q_then_n ?_; refine tc_seq ?_; refine tc_block ?_; refine sr ?_; refine tlm ?_; refine tla ?_; refine nq ?_; refine sr ?_; refine tlm ?_; refine tv (o_nilCheck rfl) ?_; refine tv (o_fieldAddr (o := 0) Tryz.underlying97 rfl rfl sz94 rfl) ?_; refine tl_dev fun hw bl svs av kvs hsv hkv => ?_
        have hi : i < (fromP n xs i).ls.length := by rw [fromP_len]; omega
        obtain ⟨R, hf1, hf2⟩ := devC_focus (d := d12) (bl := bl) (kvs := kvs) (av := av) (s := fromP n xs i) hsv hi
        refine tl_eq (hf1 F) ?_
        rw [fromP_at xs (show i < n by omega)]
        refine tl_have (fun _ _ h => sl_have' rfl h) fun ⟨a', c', hvv, hn', hl', hrd⟩ => ?_
        rw [hvv] at hrd ⊢
        obtain ⟨b, o, rfl, _⟩ := hrd.some (by decide)
        have hsl : svs.length = n := by rw [hsv, fromP_len]
        have hcell : (lcs svs (fromP n xs i).ls)[i * 2 + 0]? = some (.slice (some ⟨b, o, none⟩) 1 c') := by rw [Nat.add_zero, lcs_sv hsv (by omega), hvv]; rfl
        rw [show (fromP n xs i).ls.length = n from fromP_len n xs i]
        refine tv (by first | exact o_load p94 rfl (by repeat (first | with_reducible exact has_here | with_reducible exact has_pt | apply has_left)) rfl | exact o_loadC p94 rfl (by assumption)) ?_; refine tlm ?_; refine tv (o_indexAddrN Tryz.underlying94 sz179 rfl rfl (by omega)) ?_; refine tv (o_fieldAddr (o := 0) Tryz.underlying179 rfl rfl sz177 rfl) ?_; refine tv (o_loadC p177 rfl (cell_of_has (by repeat (first | with_reducible exact has_here | with_reducible exact has_pt | apply has_left)) (by rw [Nat.zero_add]; exact hcell))) ?_; refine tv (o_indexAddrN (j := 0) Tryz.underlying177 sz176 rfl rfl (by decide)) ?_; refine tla ?_; refine nq ?_; refine sr ?_; refine tlm ?_; refine nq ?_; refine tc_block ?_; refine tc_loop (fun kk ρ BB => ∃ (k : Nat), (k ≤ 8) ∧ kk = 8 - k ∧ ρ 35 = .int .i64 (k : Nat) ∧ ρ 0 = .slice a m c ∧ ρ 4 = .pointer (some ⟨d12, 0, none⟩) ∧ ρ 6 = .int .i64 (i : Nat) ∧ ρ 7 = .pointer (some ⟨b, o, none⟩) ∧ ρ 22 = .int .i64 (n : Nat) ∧ ρ 23 = .int .i64 (i : Nat) ∧ BB = F * R * pt bl (cl (lcs svs (fromP n xs i).ls) 179) * pt d12 (cl (dcs bl n (fromP n xs i) av) 97) * Sl 8 (.slice (some ⟨b, o, none⟩) 1 c') 1 (wds (lineW xs i k))) (m := 8 - (0)) ?_ ?_
        · exact ⟨0, by omega, rfl, rfl, rfl, rfl, rfl, rfl, rfl, rfl, by rw [lineW_zero]; rfl⟩
        · intro k ρ B hI
          obtain ⟨k, hp0, hkk2, hE35, hE0, hE4, hE6, hE7, hE22, hE23, rfl⟩ := hI
          refine tc_env (d := 35) hE35 ?_; refine tc_env (d := 0) hE0 ?_; refine tc_env (d := 4) hE4 ?_; refine tc_env (d := 6) hE6 ?_; refine tc_env (d := 7) hE7 ?_; refine tc_env (d := 22) hE22 ?_; refine tc_env (d := 23) hE23 ?_
          clear hE35 hE0 hE4 hE6 hE7 hE22 hE23
          refine sr ?_; refine tv (o_lss rfl rfl) ?_; refine nq ?_; refine tc_seq ?_; refine tc_cond rfl (fun h => ?_) (fun h => ?_)
          · try simp only [lv1, lv2, lv3, lv4, lv5, lv6, Bool.not_true, Bool.not_false] at h
            refine tc_skip ?_; refine q_then_n ?_; refine tc_seq ?_; refine tc_block ?_; refine sr ?_; refine tlm ?_; refine tla ?_; refine nq ?_; refine tc_regh (S := F * R * pt bl (cl (lcs svs (fromP n xs i).ls) 179) * pt d12 (cl (dcs bl n (fromP n xs i) av) 97)) mo (by repeat (first | with_reducible exact dr_refl | apply dr_keep | apply dr_drop)) ?_
            show TH _ _ _ _ _ 15 #[ff,ff,ff,ff,ff,ff,ff,ff,ff,ff,ff,ff,ff,ff,ff] _ _
            refine th_take (i := 0) (listed' := #[tt,ff,ff,ff,ff,ff,ff,ff,ff,ff,ff,ff,ff,ff,ff]) rfl (by kernel_rfl) (by kernel_rfl) (by kernel_rfl) rfl rfl (o_move (by conv => lhs; whnf)) ?_; refine th_take (i := 1) (listed' := #[tt,tt,ff,ff,ff,ff,ff,ff,ff,ff,ff,ff,ff,ff,ff]) rfl (by kernel_rfl) (by kernel_rfl) (by kernel_rfl) rfl rfl (o_move (by conv => lhs; whnf)) ?_; refine th_take (i := 2) (listed' := #[tt,tt,tt,ff,ff,ff,ff,ff,ff,ff,ff,ff,ff,ff,ff]) rfl (by kernel_rfl) (by kernel_rfl) (by kernel_rfl) rfl rfl (o_move (by conv => lhs; whnf)) ?_; refine th_take (i := 3) (listed' := #[tt,tt,tt,tt,ff,ff,ff,ff,ff,ff,ff,ff,ff,ff,ff]) rfl (by kernel_rfl) (by kernel_rfl) (by kernel_rfl) rfl rfl (o_move (by conv => lhs; whnf)) ?_; refine th_take (i := 4) (listed' := #[tt,tt,tt,tt,tt,ff,ff,ff,ff,ff,ff,ff,ff,ff,ff]) rfl (by kernel_rfl) (by kernel_rfl) (by kernel_rfl) rfl rfl (by first | exact o_mulI rfl rfl (by omega) | exact o_mul rfl rfl) ?_; refine th_take (i := 5) (listed' := #[tt,tt,tt,tt,tt,tt,ff,ff,ff,ff,ff,ff,ff,ff,ff]) rfl (by kernel_rfl) (by kernel_rfl) (by kernel_rfl) rfl rfl (o_move (by conv => lhs; whnf)) ?_; refine th_take (i := 6) (listed' := #[tt,tt,tt,tt,tt,tt,tt,ff,ff,ff,ff,ff,ff,ff,ff]) rfl (by kernel_rfl) (by kernel_rfl) (by kernel_rfl) rfl rfl (by first | exact o_mulI rfl rfl (by omega) | exact o_mul rfl rfl) ?_; refine th_take (i := 7) (listed' := #[tt,tt,tt,tt,tt,tt,tt,tt,ff,ff,ff,ff,ff,ff,ff]) rfl (by kernel_rfl) (by kernel_rfl) (by kernel_rfl) rfl rfl (by first | exact o_addI rfl rfl (by omega) | exact o_add rfl rfl) ?_
            refine th_env (d := 46) (v := .int .i64 ((i * 64 + k * 8 : Nat) : Int)) (rfl) ?_; refine th_take (i := 12) (listed' := #[tt,tt,tt,tt,tt,tt,tt,tt,ff,ff,ff,ff,tt,ff,ff]) rfl (by kernel_rfl) (by kernel_rfl) (by kernel_rfl) rfl rfl (o_nilCheck rfl) ?_; refine th_one (i := 8) (by kernel_rfl) ?_; refine oh_c (i := 8) (listed' := #[tt,tt,tt,tt,tt,tt,tt,tt,tt,ff,ff,ff,tt,ff,ff]) rfl rfl rfl (o_call bd114 rfl (Take64_c)) ?_; rintro _ _ ⟨rfl, rfl⟩; refine ⟨by repeat (first | with_reducible exact dr_refl | apply dr_keep | apply dr_drop), ?_⟩; refine th_take (i := 9) (listed' := #[tt,tt,tt,tt,tt,tt,tt,tt,tt,tt,ff,ff,tt,ff,ff]) rfl (by kernel_rfl) (by kernel_rfl) (by kernel_rfl) rfl rfl (o_move (by conv => lhs; whnf)) ?_; refine th_take (i := 10) (listed' := #[tt,tt,tt,tt,tt,tt,tt,tt,tt,tt,tt,ff,tt,ff,ff]) rfl (by kernel_rfl) (by kernel_rfl) (by kernel_rfl) rfl rfl (o_extract rfl rfl) ?_; refine th_take (i := 11) (listed' := #[tt,tt,tt,tt,tt,tt,tt,tt,tt,tt,tt,tt,tt,ff,ff]) rfl (by kernel_rfl) (by kernel_rfl) (by kernel_rfl) rfl rfl (o_extract rfl rfl) ?_; refine th_take (i := 13) (listed' := #[tt,tt,tt,tt,tt,tt,tt,tt,tt,tt,tt,tt,tt,tt,ff]) rfl (by kernel_rfl) (by kernel_rfl) (by kernel_rfl) rfl rfl (o_indexAddrAN1 (j := k) Tryz.underlying176 sz174 rfl rfl (by omega)) ?_; refine th_one (i := 14) (by kernel_rfl) ?_; refine oh_u (i := 14) (listed' := #[tt,tt,tt,tt,tt,tt,tt,tt,tt,tt,tt,tt,tt,tt,tt]) rfl rfl rfl (o_storeSlK (i := k) (k := 8) (m := 1) (xs := wds (lineW xs i k)) (ys := wds ((lineW xs i k).set k (wordF xs i k))) sz174 rfl rfl rfl (by omega) (wds_set' _ _ _) (by repeat (first | with_reducible exact foc_here | apply foc_left))) (by repeat (first | with_reducible exact dr_refl | apply dr_keep | apply dr_drop)) ?_
            refine th_done (by kernel_rfl) ?_; refine q_block_n (q_then_n ?_); refine tc_reg ?_; refine tv (by first | exact o_addI rfl rfl (by omega) | exact o_add rfl rfl) ?_; refine tlm ?_; refine nq ?_; exact ⟨_, by omega, k + 1, by omega, rfl, rfl, rfl, rfl, rfl, rfl, rfl, rfl, by rw [← lineW_set xs i (by omega)]⟩
          · try simp only [lv1, lv2, lv3, lv4, lv5, lv6, Bool.not_true, Bool.not_false] at h
            refine tc_exit ?_; refine q_then_e (q_then_e (q_block_x (q_block_n (q_then_n ?_)))); refine tc_reg ?_
            obtain rfl : k = 8 := by omega
            have hfin := hf2 F (.slice (some ⟨b, o, none⟩) 1 c') (lineF xs i)
            refine tl_eq (A' := F * DevC d12 bl (svs.set i (.slice (some ⟨b, o, none⟩) 1 c')) av kvs { fromP n xs i with ls := (fromP n xs i).ls.set i (lineF xs i) }) ?_ ?_
            · rw [← hfin, ← lineW_all]
              have e1 : lcs (svs.set i (.slice (some ⟨b, o, none⟩) 1 c')) ((fromP n xs i).ls.set i ⟨[lineW xs i 8], -1⟩) = lcs svs (fromP n xs i).ls := by
                rw [← lcs_set_sv (⟨[lineW xs i 8], -1⟩ : LineS) hsv hi (by rw [fromP_at xs (show i < n by omega)]; rfl)]
                have h1 : i * 2 < (lcs svs (fromP n xs i).ls).length := by rw [lcs_length hsv]; omega
                have h2 := List.getElem?_eq_getElem h1
                rw [Nat.add_zero] at hcell
                rw [hcell] at h2
                rw [Option.some.inj h2]
                exact set_getElem h1
              rw [e1, fromP_len]; rfl
            refine tl_pre (dev_back (by rw [fromP_set xs (show i < n by omega)]; exact fromP_wf hn hn2 hb) (by simp [hsv]) hkv) ?_
            rw [fromP_set xs (show i < n by omega)]
            refine tv (by first | exact o_addI rfl rfl (by omega) | exact o_add rfl rfl) ?_; refine tlm ?_; refine nq ?_; exact ⟨_, by omega, i + 1, by omega, rfl, rfl, rfl, rfl, rfl, rfl⟩
      · try simp only [lv1, lv2, lv3, lv4, lv5, lv6, Bool.not_true, Bool.not_false] at h
        refine tc_exit ?_; refine q_then_e (q_then_e (q_block_x (q_then_n ?_))); refine sr ?_; refine tlm ?_; refine tla ?_; refine tla ?_; refine nq ?_; refine tc_ret ?_
        obtain rfl : i = n := by omega
        rw [fromP_all]
        exact ⟨_, _, res2 rfl rfl rfl, fun _ _ h => h, d12, rfl, rfl⟩
end Go.Vl

namespace Go.Vl
open Go Go.Proofs
/-- Arms, to be read. -/
structure RdA (A : SP) (a : Option Addr) (kvs : List Value) (ars : List (Int × List Int)) : Prop where
  rd : Rs A a (acs kvs ars)
  len : kvs.length = ars.length
  keep : ∀ i (h : i < ars.length), ∃ b c, kvs[i]? = some (.slice b ars[i].2.length c) ∧ ars[i].2.length ≤ c ∧ Rs A b (ints ars[i].2)
theorem RdA.left {A X : SP} {a : Option Addr} {kvs : List Value} {ars : List (Int × List Int)} (h : RdA A a kvs ars) : RdA (A * X) a kvs ars :=
  ⟨h.rd.left, h.len, fun i hi => by obtain ⟨b, c, e, hc, hr⟩ := h.keep i hi; exact ⟨b, c, e, hc, hr.left⟩⟩
theorem sl_share {k n : Nat} {v : Value} {xs : List Value} {R : SP} {g : Gh} {w : World} (hs : sat g w (R * Sl k v n xs)) : sat g w (R * SlR k v n xs) := by
  obtain ⟨hl, ⟨e1, e2, h⟩ | ⟨b, off, cap, l, E, e1, h1, h2, h3, h⟩⟩ := sl_iff.1 hs
  · obtain ⟨x, ha, hx⟩ := h.hp
    refine ⟨h.os, h.tape, h.out, x, ⟨x, fun _ => none, fun _ => .inr (.inl rfl), ?_, ha, hl, .inl ⟨e1, e2, rfl⟩⟩, hx⟩
    funext b; simp [Hp.un]
  · have h' := h.share
    obtain ⟨_, ⟨x, y, hd, rfl, ha, hb⟩, hx⟩ := h'.hp
    exact ⟨h'.os, h'.tape, h'.out, _, ⟨x, y, hd, rfl, ha, hl, .inr ⟨b, off, cap, l, E, e1, h1, h2, h3, hb⟩⟩, hx⟩
def badA (x : Int × List Int) : Bool := decide (x.1 < 1) || lowB x.2
/-- What Arm answers, and the device behind it. -/
def armS (ars : List (Int × List Int)) (s : DevS) : Int × DevS := if s.off then (5, s) else if ars.any badA then (2, s) else if 64 < ars.length + s.arms.length then (4, s) else (0, { s with arms := s.arms ++ ars })
end Go.Vl

namespace Go.Vl
open Go Go.Proofs
theorem Size_c {A R : SP} {C : SP → SP} {d : Nat} {s : DevS} (hc : Ct A (Dev d s) R C := by repeat (first | with_reducible exact ct_here | apply ct_left)) : Fn Tryz.prog 104 #[.pointer (some ⟨d, 0, none⟩)] A (fun r B => r = .int .i64 ((s.ls.length : Int) * 64) ∧ A = B) := by
  obtain ⟨rfl, hC⟩ := hc
  exact fn_devR0 fun _ A bl svs av hR => Size_f A d bl s.ls.length s av hR.d hR.wf.pos hR.wf.top
/-- Lines of which the first are copied. -/
def cpB (ws : List Value) (ls : List LineS) (i : Nat) : List Value := lcs (ws ++ List.replicate (ls.length - i) (.slice none 0 0)) (ls.take i ++ List.replicate (ls.length - i) ⟨[], 0⟩)
end Go.Vl

namespace Go.Vl
open Go Go.Proofs
/-! ### Cells of records, k each -/
section
variable {α : Type} {f : α → List Value} {k : Nat}
theorem fm_drop : ∀ {l : List α} {i : Nat} (_ : ∀ a ∈ l, (f a).length = k), (l.flatMap f).drop (i * k) = (l.drop i).flatMap f
  | [], i, _ => by simp
  | a :: l, 0, _ => by simp
  | a :: l, i + 1, h => by
    have e : (i + 1) * k = (f a).length + i * k := by rw [h a (by simp), Nat.add_mul]; omega
    rw [e, List.flatMap_cons, List.drop_length_add_append, fm_drop (fun x hx => h x (List.mem_cons_of_mem _ hx)), List.drop_succ_cons]
theorem fm_atj {l : List α} {i j p : Nat} (h : ∀ a ∈ l, (f a).length = k) (hi : i < l.length) (hj : j < k) (hp : p = i * k + j) : (l.flatMap f)[p]? = (f l[i])[j]? := by
  subst hp
  rw [← List.getElem?_drop, fm_drop h, List.drop_eq_getElem_cons hi, List.flatMap_cons, List.getElem?_append_left (by rw [h _ (List.getElem_mem hi)]; exact hj)]
theorem fm_sn (l : List α) (a : α) : l.flatMap f ++ f a = (l ++ [a]).flatMap f := by simp
end
/-! ### Iterated assertions -/
section
variable {α : Type} {f : α → SP}
def Bs (f : α → SP) : List α → SP
  | [] => emp
  | a :: l => Bs f l * f a
theorem bs_nil : Bs f [] = emp := rfl
theorem bs_cons (a : α) (l : List α) : Bs f (a :: l) = Bs f l * f a := rfl
theorem bs_append : ∀ (l m : List α), Bs f (l ++ m) = Bs f l * Bs f m
  | [], m => (emp_star _).symm
  | a :: l, m => by rw [List.cons_append, bs_cons, bs_cons, bs_append l m, star_swap]
theorem bs_snoc (l : List α) (a : α) : Bs f (l ++ [a]) = Bs f l * f a := by rw [bs_append, bs_cons, bs_nil, emp_star]
theorem bs_get : ∀ {l : List α} {i : Nat} (hi : i < l.length), ∃ R, Bs f l = R * f l[i] ∧ ∀ y, Bs f (l.set i y) = R * f y
  | a :: l, 0, _ => ⟨Bs f l, rfl, fun _ => rfl⟩
  | a :: l, i + 1, hi => by
    obtain ⟨R, h1, h2⟩ := bs_get (l := l) (i := i) (by simpa using hi)
    refine ⟨R * f a, ?_, fun y => ?_⟩
    · simp only [bs_cons, List.getElem_cons_succ]; rw [h1, star_swap]
    · simp only [List.set_cons_succ, bs_cons]; rw [h2, star_swap]
end
theorem rs_cutC {A : SP} {a : Option Addr} {cap l : Nat} {X : List Nat} (h : Rs A a (bys X)) (hx : X.length ≤ cap) : Rs A (cutAddr a cap l 1) (bys (X.drop l)) := by
  have := rs_cut (l := l) (k := 1) (cap := cap) h (by rw [bys_length]; omega)
  rw [Nat.mul_one] at this
  unfold bys at this ⊢
  rwa [← List.map_drop] at this
theorem bys_takeG (xs : List Nat) (n : Nat) : (bys xs).take n = bys (xs.take n) := by simp [bys, List.map_take]
theorem rs_mid {A : SP} {a : Option Addr} {cap l m : Nat} {X : List Nat} (h : Rs A a (bys X)) (hx : X.length ≤ cap) : Rs A (cutAddr a cap l 1) (bys ((X.drop l).take m)) := by
  rw [← bys_takeG]; exact (rs_cutC h hx).sub m
end Go.Vl

namespace Go.Vl
open Go Go.Proofs
/-- An entry: its key, its value, when it came. -/
structure ME where
  k : Int
  v : Value
  b : Nat
/-- The entries, and the clock. -/
structure MS where
  D : List ME
  c : Nat
def ment (ik : IntKind) (e : ME) : MapEntry := ⟨.int ik e.k, e.v, e.b⟩
def mpo (ik : IntKind) (M : MS) : Obj := .map (M.D.map (ment ik)).toArray M.c
def mfind : List ME → Int → Nat → Option (Nat × Value)
  | [], _, _ => none
  | e :: D, a, i => if a = e.k then some (i, e.v) else mfind D a (i + 1)
def MS.get (M : MS) (a : Int) : Option Value := (mfind M.D a 0).map Prod.snd
def MS.put (M : MS) (a : Int) (v : Value) : MS := match mfind M.D a 0 with
  | some (i, _) => ⟨M.D.modify i (fun e => ⟨e.k, v, e.b⟩), M.c⟩
  | none => ⟨M.D ++ [⟨a, v, M.c⟩], M.c + 1⟩
def MS.del (M : MS) (a : Int) : MS := match mfind M.D a 0 with
  | some (i, _) => ⟨M.D.eraseIdx i, M.c⟩
  | none => M
def MS.clr (M : MS) : MS := ⟨[], M.c⟩
/-- What a map may be: no key twice, nor a time of coming; all came before now. -/
structure WfM (M : MS) : Prop where
  keys : (M.D.map ME.k).Nodup
  born : (M.D.map ME.b).Nodup
  past : ∀ e ∈ M.D, e.b < M.c
theorem mfind_i : ∀ {D : List ME} {a : Int} {i : Nat}, mfind D a i = (mfind D a 0).map fun p => (p.1 + i, p.2)
  | [], _, _ => rfl
  | e :: D, a, i => by
    unfold mfind
    split
    · simp
    · rw [mfind_i (i := i + 1), mfind_i (i := 0 + 1)]
      cases mfind D a 0 <;> simp; omega
theorem mfind_some : ∀ {D : List ME} {a : Int} {i : Nat} {v : Value}, mfind D a 0 = some (i, v) → ∃ h : i < D.length, D[i].k = a ∧ D[i].v = v
  | e :: D, a, i, v, h => by
    unfold mfind at h
    split at h
    · rename_i he
      simp only [Option.some.injEq, Prod.mk.injEq] at h
      obtain ⟨rfl, rfl⟩ := h
      exact ⟨by simp, he.symm, rfl⟩
    · rw [mfind_i] at h
      cases hm : mfind D a 0 with
      | none => rw [hm] at h; cases h
      | some p =>
        rw [hm] at h
        simp only [Option.map_some, Option.some.injEq, Prod.mk.injEq] at h
        obtain ⟨rfl, rfl⟩ := h
        obtain ⟨h1, h2, h3⟩ := mfind_some (D := D) (i := p.1) (v := p.2) hm
        exact ⟨by simp; omega, by simpa using h2, by simpa using h3⟩
theorem mfind_none : ∀ {D : List ME} {a : Int}, mfind D a 0 = none → ∀ e ∈ D, e.k ≠ a
  | [], _, _ => by simp
  | x :: D, a, h => by
    unfold mfind at h
    split at h
    · cases h
    · rename_i hx
      rw [mfind_i] at h
      have hm : mfind D a 0 = none := by cases hm : mfind D a 0 <;> rw [hm] at h <;> first | rfl | cases h
      intro e he
      rcases List.mem_cons.1 he with rfl | he
      · exact fun e => hx e.symm
      · exact mfind_none hm e he
theorem mfind_cons (e : ME) (D : List ME) (a : Int) (i : Nat) : mfind (e :: D) a i = if a = e.k then some (i, e.v) else mfind D a (i + 1) := rfl
theorem mfind_append : ∀ {D E : List ME} {a : Int}, mfind (D ++ E) a 0 = (mfind D a 0).or (mfind E a D.length)
  | [], E, a => by simp [mfind]
  | x :: D, E, a => by
    rw [List.cons_append, mfind_cons, mfind_cons]
    split
    · simp
    · rw [mfind_i, mfind_append, mfind_i (i := 0 + 1) (D := D)]
      have : mfind E a (x :: D).length = (mfind E a D.length).map fun p => (p.1 + 1, p.2) := by
        rw [mfind_i, mfind_i (i := D.length)]; cases mfind E a 0 <;> simp; omega
      rw [this]
      cases mfind D a 0 <;> simp
theorem mfind_modify : ∀ {D : List ME} {a c : Int} {i : Nat} {u v : Value}, mfind D a 0 = some (i, u) → mfind (D.modify i fun e => ⟨e.k, v, e.b⟩) c 0 = if a = c then some (i, v) else mfind D c 0
  | e :: D, a, c, i, u, v, h => by
    unfold mfind at h
    split at h
    · rename_i he
      simp only [Option.some.injEq, Prod.mk.injEq] at h
      obtain ⟨rfl, rfl⟩ := h
      subst he
      rw [List.modify_zero_cons]
      unfold mfind
      by_cases hc : e.k = c
      · rw [if_pos hc.symm, if_pos hc]
      · rw [if_neg (fun h => hc h.symm), if_neg hc, if_neg (fun h => hc h.symm)]
    · rename_i he
      rw [mfind_i] at h
      cases hm : mfind D a 0 with
      | none => rw [hm] at h; cases h
      | some p =>
        rw [hm] at h
        simp only [Option.map_some, Option.some.injEq, Prod.mk.injEq] at h
        obtain ⟨rfl, rfl⟩ := h
        rw [List.modify_succ_cons]
        have ih := mfind_modify (c := c) (v := v) (i := p.1) (u := p.2) hm
        unfold mfind
        by_cases hc : c = e.k
        · subst hc; rw [if_pos rfl, if_neg he, if_pos rfl]
        · rw [if_neg hc, if_neg hc, mfind_i, ih]
          split
          · simp
          · rw [mfind_i (i := 0 + 1)]
theorem MS.get_put {M : MS} {a c : Int} {v : Value} : (M.put a v).get c = if a = c then some v else M.get c := by
  unfold MS.put MS.get
  cases h : mfind M.D a 0 with
  | some p =>
    obtain ⟨i, u⟩ := p
    simp only []
    rw [mfind_modify h]
    split <;> rfl
  | none =>
    simp only []
    rw [mfind_append]
    by_cases hc : a = c
    · subst hc; rw [h, if_pos rfl]; simp [mfind]
    · rw [if_neg hc]
      have : mfind [(⟨a, v, M.c⟩ : ME)] c M.D.length = none := by simp [mfind, Ne.symm hc]
      rw [this, Option.or_none]
theorem MS.get_nil {c : Nat} {a : Int} : (⟨[], c⟩ : MS).get a = none := rfl
theorem wfM_put {M : MS} {a : Int} {v : Value} (h : WfM M) : WfM (M.put a v) := by
  unfold MS.put
  cases hf : mfind M.D a 0 with
  | some p =>
    obtain ⟨i, u⟩ := p
    have e1 : ∀ (l : List ME) (i : Nat), (l.modify i fun e => ⟨e.k, v, e.b⟩).map ME.k = l.map ME.k := fun l i => by
      apply List.ext_getElem?; intro j; simp only [List.getElem?_map, List.getElem?_modify]; cases l[j]? <;> simp; split <;> rfl
    have e2 : ∀ (l : List ME) (i : Nat), (l.modify i fun e => ⟨e.k, v, e.b⟩).map ME.b = l.map ME.b := fun l i => by
      apply List.ext_getElem?; intro j; simp only [List.getElem?_map, List.getElem?_modify]; cases l[j]? <;> simp; split <;> rfl
    refine ⟨by simp only []; rw [e1]; exact h.keys, by simp only []; rw [e2]; exact h.born, fun e he => ?_⟩
    simp only [] at he ⊢
    have hb : e.b ∈ (M.D.modify i fun e => ⟨e.k, v, e.b⟩).map ME.b := List.mem_map_of_mem he
    rw [e2] at hb
    obtain ⟨e', he', hbe⟩ := List.mem_map.1 hb
    rw [← hbe]; exact h.past e' he'
  | none =>
    have hn := mfind_none hf
    refine ⟨?_, ?_, fun e he => ?_⟩
    · simp only [List.map_append, List.map_cons, List.map_nil]
      exact List.nodup_append.2 ⟨h.keys, by simp, fun x hx y hy => by
        simp only [List.mem_singleton] at hy; subst hy
        obtain ⟨e, he, rfl⟩ := List.mem_map.1 hx
        exact hn e he⟩
    · simp only [List.map_append, List.map_cons, List.map_nil]
      exact List.nodup_append.2 ⟨h.born, by simp, fun x hx y hy => by
        simp only [List.mem_singleton] at hy; subst hy
        obtain ⟨e, he, rfl⟩ := List.mem_map.1 hx
        have := h.past e he; omega⟩
    · rcases List.mem_append.1 he with he | he
      · have := h.past e he; show e.b < M.c + 1; omega
      · simp only [List.mem_singleton] at he; subst he; exact Nat.lt_succ_self _
theorem findNow_e {ik : IntKind} {a : Int} : ∀ (D : List ME) (i : Nat), Instr.findNow (.int ik) (.int ik a) (D.map (ment ik)) i = some (mfind D a i)
  | [], i => rfl
  | e :: D, i => by
    simp only [List.map_cons, Instr.findNow, ment, Instr.sameNow, if_true]
    unfold mfind
    by_cases h : a = e.k
    · subst h; simp
    · have : (a == e.k) = false := by simpa using h
      rw [this, if_neg h]; exact findNow_e D (i + 1)
section
variable {P : Program} {w : World} {ik : IntKind} {kt : TypeId}
theorem run_findKey {D : List ME} {a : Int} (hk : P.underlying kt = some (.int ik)) : (Instr.findKey kt (.int ik a) (D.map (ment ik))).run P w = .ok (mfind D a 0) w := by
  unfold Instr.findKey
  rw [run_bind (run_und hk), findNow_e]; rfl
theorem run_checkKey {b : Bool} {a : Int} (hk : P.underlying kt = some (.int ik)) : (Instr.checkKey b 10000 kt (.int ik a)).run P w = .ok () w := by
  show (Instr.checkKey b (9999 + 1) kt (.int ik a)).run P w = _
  rw [Instr.checkKey, run_bind (run_und hk)]; rfl
theorem run_getMap {b : Nat} {M : MS} (h : w.heap[b]? = some (mpo ik M)) : (getObj b).run P w = .ok (mpo ik M) w := by
  simp [getObj, Sem.run, h, mpo]
theorem run_setMap {b : Nat} {M : MS} {o : Obj} (h : w.heap[b]? = some (mpo ik M)) : (setObj b o).run P w = .ok () { w with heap := w.heap.setIfInBounds b o } := by
  simp [setObj, Sem.run, h, mpo]
end
theorem set_heap {w : World} {b : Nat} {o o' : Obj} (h : w.heap[b]? = some o) (k : Nat) : ({ w with heap := w.heap.setIfInBounds b o' } : World).heap[k]? = if k = b then some o' else w.heap[k]? := by
  show (w.heap.setIfInBounds b o')[k]? = _
  rw [Array.getElem?_setIfInBounds]
  have hb : b < w.heap.size := by
    rcases Nat.lt_or_ge b w.heap.size with h1 | h1
    · exact h1
    · rw [Array.getElem?_eq_none h1] at h; cases h
  by_cases hk : b = k
  · subst hk; simp [hb]
  · rw [if_neg hk, if_neg (Ne.symm hk)]
section
variable {P : Program} {n : Nat} {ρ : Env} {A : SP} {dst : Option Tmp} {ty : TypeId} {pos : String} {after : Array Edge} {gd : Option (Nat × Bool)} {ik : IntKind} {kt et t : TypeId} {x y : Operand} {b : Nat} {M M' : MS} {a : Int} {A' : SP} {z : Value}
theorem o_makeMap (hu : P.underlying t = some (.map kt et)) : OpX P n ρ A ⟨dst, .makeMap t none, ty, pos, after, gd⟩ (fun v B => ∃ b, v = .map (some b) ∧ B = A * pt b (mpo ik ⟨[], 0⟩)) := fun g w hs => by
  refine ⟨_, w.alloc (mpo ik ⟨[], 0⟩), _, ?_, hs.alloc _, w.heap.size, rfl, rfl⟩
  simp only [execOp, Option.map_none]
  rw [run_bind (a := .map (some w.heap.size)) (w' := w.alloc (mpo ik ⟨[], 0⟩))]
  · rfl
  rfl
theorem o_lookup (hu : P.underlying t = some (.map kt et)) (hk : P.underlying kt = some (.int ik)) (hz : zeroE P et = some z) (hx : ev n ρ x = .map (some b)) (hy : ev n ρ y = .int ik a) (hh : Has A b (mpo ik M)) :
    OpV P n ρ A ⟨dst, .lookup t x y false, ty, pos, after, gd⟩ ((M.get a).getD z) := fun g w hs => by
  have h := hh g w hs
  simp only [execOp, hx, hy]
  rw [run_bind (a := (M.get a).getD z) (w' := w)]
  · rfl
  unfold Instr.lookup
  rw [run_bind (run_und hu)]
  simp only []
  rw [run_bind (run_getMap h)]
  simp only [mpo]
  rw [run_bind (a := (M.D.map (ment ik)).toArray) (w' := w) rfl, run_bind (run_checkKey hk), run_bind (run_findKey hk)]
  unfold MS.get
  cases mfind M.D a 0 with
  | none => simp only [Option.map_none, Option.getD_none]; rw [run_bind (run_zeroV hz)]; rfl
  | some p => rfl
theorem o_lookupOk (hu : P.underlying t = some (.map kt et)) (hk : P.underlying kt = some (.int ik)) (hz : zeroE P et = some z) (hx : ev n ρ x = .map (some b)) (hy : ev n ρ y = .int ik a) (hh : Has A b (mpo ik M)) :
    OpV P n ρ A ⟨dst, .lookup t x y true, ty, pos, after, gd⟩ (.tuple #[(M.get a).getD z, .bool (M.get a).isSome]) := fun g w hs => by
  have h := hh g w hs
  simp only [execOp, hx, hy]
  rw [run_bind (a := .tuple #[(M.get a).getD z, .bool (M.get a).isSome]) (w' := w)]
  · rfl
  unfold Instr.lookup
  rw [run_bind (run_und hu)]
  simp only []
  rw [run_bind (run_getMap h)]
  simp only [mpo]
  rw [run_bind (a := (M.D.map (ment ik)).toArray) (w' := w) rfl, run_bind (run_checkKey hk), run_bind (run_findKey hk)]
  unfold MS.get
  cases mfind M.D a 0 with
  | none => simp only [Option.map_none, Option.getD_none, Option.isSome_none]; rw [run_bind (run_zeroV hz)]; rfl
  | some p => rfl
theorem o_mapUpdate {v : Value} {u : Operand} (hu : P.underlying t = some (.map kt et)) (hk : P.underlying kt = some (.int ik)) (hx : ev n ρ x = .map (some b)) (hup : Upd A b (mpo ik M) (mpo ik M') A') (hy : ev n ρ y = .int ik a) (hv : ev n ρ u = v) (he : M.put a v = M') :
    OpU P n ρ A ⟨dst, .mapUpdate t x y u, ty, pos, after, gd⟩ A' := fun g w hs => by
  have h := hup.has g w hs
  refine ⟨{ w with heap := w.heap.setIfInBounds b (mpo ik M') }, ?_, hup.sat hs (set_heap h) rfl rfl rfl⟩
  simp only [execOp, hx, hy, hv]
  rw [run_bind (a := ()) (w' := { w with heap := w.heap.setIfInBounds b (mpo ik M') })]
  · rfl
  unfold Instr.mapUpdate
  rw [run_bind (run_und hu)]
  simp only []
  rw [run_bind (run_getMap h)]
  simp only [mpo]
  rw [run_bind (run_checkKey hk), run_bind (run_findKey hk)]
  subst he
  unfold MS.put
  cases hf : mfind M.D a 0 with
  | none =>
    simp only []
    rw [run_setMap h]
    simp [mpo, ment]
  | some p =>
    obtain ⟨i, u0⟩ := p
    obtain ⟨hi, h1, _⟩ := mfind_some hf
    simp only []
    have hkk : ((((M.D.map (ment ik)).toArray[i]?).map (·.key)).getD (.int ik a)) = .int ik a := by simp [hi, ment, h1]
    rw [hkk, run_bind (a := .int ik a) (w' := w)]
    · rw [run_setMap h]
      congr 3
      simp only [mpo, Obj.map.injEq, and_true]
      apply Array.ext'
      simp only [Array.toList_modify, List.toList_toArray]
      apply List.ext_getElem?
      intro j
      simp only [List.getElem?_modify, List.getElem?_map]
      by_cases hj : i = j
      · subst hj; rw [List.getElem?_eq_getElem hi]; simp [ment, h1]
      · simp only [if_neg hj]
        cases M.D[j]? <;> simp
    · unfold Instr.keyThatStays
      have : Instr.sameBits 10000 (.int ik a) (.int ik a) = true := by simp [Instr.sameBits]
      rw [if_pos this]; rfl
end
end Go.Vl

namespace Go.Proofs
open Go.Shelf
def Tryz.sortA_ren : Go.Shelf.Ren := ⟨fun | 5 => 158 | 8 => 207 | 7 => 206 | 19 => 252 | 20 => 253 | 10 => 243 | 11 => 244 | 12 => 245 | 13 => 246 | 14 => 247 | 15 => 248 | 16 => 249 | 17 => 250 | 18 => 251 | 30 => 271 | 31 => 272 | 32 => 273 | 33 => 274 | 34 => 275 | 35 => 276 | 40 => 282 | n => n, fun | 23 => 26 | 25 => 3 | 3 => 3 | 32 => 260 | 22 => 26 | 0 => 0 | 44 => 32 | 46 => 174 | 4 => 4 | 36 => 313 | 35 => 312 | 41 => 317 | 5 => 5 | 9 => 9 | 53 => 333 | 57 => 337 | 63 => 343 | 64 => 344 | n => n, fun | n => n⟩
theorem Tryz.sortA : Go.Proofs.SlLaysM.n5 Tryz.prog Tryz.sortA_ren := {
  mixed := by kernel_rfl
  f5 := ⟨Tryz.f158.name, by decide, Tryz.func158.trans (congrArg some (by kernel_rfl))⟩
  f7 := ⟨Tryz.f206.name, by decide, Tryz.func206.trans (congrArg some (by kernel_rfl))⟩
  f8 := Tryz.func207.trans (congrArg some (by kernel_rfl))
  f10 := ⟨Tryz.f243.name, by decide, Tryz.func243.trans (congrArg some (by kernel_rfl))⟩
  f11 := ⟨Tryz.f244.name, by decide, Tryz.func244.trans (congrArg some (by kernel_rfl))⟩
  f12 := ⟨Tryz.f245.name, by decide, Tryz.func245.trans (congrArg some (by kernel_rfl))⟩
  f13 := ⟨Tryz.f246.name, by decide, Tryz.func246.trans (congrArg some (by kernel_rfl))⟩
  f14 := ⟨Tryz.f247.name, by decide, Tryz.func247.trans (congrArg some (by kernel_rfl))⟩
  f15 := ⟨Tryz.f248.name, by decide, Tryz.func248.trans (congrArg some (by kernel_rfl))⟩
  f16 := ⟨Tryz.f249.name, by decide, Tryz.func249.trans (congrArg some (by kernel_rfl))⟩
  f17 := ⟨Tryz.f250.name, by decide, Tryz.func250.trans (congrArg some (by kernel_rfl))⟩
  f18 := ⟨Tryz.f251.name, by decide, Tryz.func251.trans (congrArg some (by kernel_rfl))⟩
  f19 := Tryz.func252.trans (congrArg some (by kernel_rfl))
  f20 := Tryz.func253.trans (congrArg some (by kernel_rfl))
  f30 := ⟨Tryz.f271.name, by decide, Tryz.func271.trans (congrArg some (by kernel_rfl))⟩
  f31 := Tryz.func272.trans (congrArg some (by kernel_rfl))
  f32 := Tryz.func273.trans (congrArg some (by kernel_rfl))
  f33 := ⟨Tryz.f274.name, by decide, Tryz.func274.trans (congrArg some (by kernel_rfl))⟩
  f34 := ⟨Tryz.f275.name, by decide, Tryz.func275.trans (congrArg some (by kernel_rfl))⟩
  f35 := ⟨Tryz.f276.name, by decide, Tryz.func276.trans (congrArg some (by kernel_rfl))⟩
  f40 := ⟨Tryz.f282.name, by decide, Tryz.func282.trans (congrArg some (by kernel_rfl))⟩
  t0 := Tryz.underlying0
  a0 := Tryz.isAgg0
  z0 := Tryz.sizeOf0
  v0 := Tryz.zeroValue0
  t3 := Tryz.underlying3
  a3 := Tryz.isAgg3
  z3 := Tryz.sizeOf3
  v3 := Tryz.zeroValue3
  t4 := Tryz.underlying4
  a4 := Tryz.isAgg4
  z4 := Tryz.sizeOf4
  v4 := Tryz.zeroValue4
  t5 := Tryz.underlying5
  a5 := Tryz.isAgg5
  z5 := Tryz.sizeOf5
  v5 := Tryz.zeroValue5
  t9 := Tryz.underlying9
  a9 := Tryz.isAgg9
  z9 := Tryz.sizeOf9
  v9 := Tryz.zeroValue9
  t22 := Tryz.underlying26
  a22 := Tryz.isAgg26
  z22 := Tryz.sizeOf26
  v22 := Tryz.zeroValue26
  t23 := Tryz.underlying26
  a23 := Tryz.isAgg26
  z23 := Tryz.sizeOf26
  v23 := Tryz.zeroValue26
  t25 := Tryz.underlying3
  a25 := Tryz.isAgg3
  z25 := Tryz.sizeOf3
  v25 := Tryz.zeroValue3
  t32 := Tryz.underlying260
  a32 := Tryz.isAgg260
  z32 := Tryz.sizeOf260
  v32 := Tryz.zeroValue260
  t35 := Tryz.underlying312
  a35 := Tryz.isAgg312
  z35 := Tryz.sizeOf312
  v35 := Tryz.zeroValue312
  t36 := Tryz.underlying313
  a36 := Tryz.isAgg313
  z36 := Tryz.sizeOf313
  v36 := Tryz.zeroValue313
  t41 := Tryz.underlying317
  a41 := Tryz.isAgg317
  z41 := Tryz.sizeOf317
  v41 := Tryz.zeroValue317
  t44 := Tryz.underlying32
  a44 := Tryz.isAgg32
  z44 := Tryz.sizeOf32
  v44 := Tryz.zeroValue32
  t46 := Tryz.underlying174
  a46 := Tryz.isAgg174
  z46 := Tryz.sizeOf174
  v46 := Tryz.zeroValue174
  t53 := Tryz.underlying333
  a53 := Tryz.isAgg333
  z53 := Tryz.sizeOf333
  v53 := Tryz.zeroValue333
  t57 := Tryz.underlying337
  a57 := Tryz.isAgg337
  z57 := Tryz.sizeOf337
  v57 := Tryz.zeroValue337
  t63 := Tryz.underlying343
  a63 := Tryz.isAgg343
  z63 := Tryz.sizeOf343
  v63 := Tryz.zeroValue343
  t64 := Tryz.underlying344
  a64 := Tryz.isAgg344
  z64 := Tryz.sizeOf344
  v64 := Tryz.zeroValue344 }
def Tryz.sortedA_ren : Go.Shelf.Ren := ⟨fun | 6 => 150 | 8 => 204 | 9 => 158 | 11 => 242 | 13 => 207 | 12 => 206 | 23 => 252 | 24 => 253 | 14 => 243 | 15 => 244 | 16 => 245 | 17 => 246 | 18 => 247 | 19 => 248 | 20 => 249 | 21 => 250 | 22 => 251 | 25 => 271 | 26 => 272 | 27 => 273 | 28 => 274 | 29 => 275 | 30 => 276 | 31 => 282 | n => n, fun | 26 => 3 | 28 => 230 | 24 => 26 | 0 => 0 | 3 => 3 | 37 => 260 | 48 => 32 | 50 => 174 | 4 => 4 | 40 => 313 | 39 => 312 | 45 => 317 | 5 => 5 | 9 => 9 | 51 => 333 | 55 => 337 | 57 => 343 | 58 => 344 | 33 => 24 | n => n, fun | n => n⟩
theorem Tryz.sortedA : Go.Proofs.SlLaysZI.n6 Tryz.prog Tryz.sortedA_ren := {
  mixed := by kernel_rfl
  f6 := ⟨Tryz.f150.name, by decide, Tryz.func150.trans (congrArg some (by kernel_rfl))⟩
  f8 := ⟨Tryz.f204.name, by decide, Tryz.func204.trans (congrArg some (by kernel_rfl))⟩
  f11 := ⟨Tryz.f242.name, by decide, Tryz.func242.trans (congrArg some (by kernel_rfl))⟩
  t0 := Tryz.underlying0
  a0 := Tryz.isAgg0
  z0 := Tryz.sizeOf0
  v0 := Tryz.zeroValue0
  t24 := Tryz.underlying26
  a24 := Tryz.isAgg26
  z24 := Tryz.sizeOf26
  v24 := Tryz.zeroValue26
  t26 := Tryz.underlying3
  a26 := Tryz.isAgg3
  z26 := Tryz.sizeOf3
  v26 := Tryz.zeroValue3
  t28 := Tryz.underlying230
  a28 := Tryz.isAgg230
  z28 := Tryz.sizeOf230
  v28 := Tryz.zeroValue230
  i26 := by kernel_rfl }
def Tryz.keysA_ren : Go.Shelf.Ren := ⟨fun | 7 => 151 | 10 => 205 | n => n, fun | 23 => 64 | 26 => 3 | 3 => 4 | 28 => 230 | 0 => 0 | 27 => 229 | 33 => 24 | 4 => 4 | n => n, fun | n => n⟩
theorem Tryz.keysA : Go.Proofs.SlLaysZI.n7 Tryz.prog Tryz.keysA_ren := {
  mixed := by kernel_rfl
  f7 := ⟨Tryz.f151.name, by decide, Tryz.func151.trans (congrArg some (by kernel_rfl))⟩
  f10 := ⟨Tryz.f205.name, by decide, Tryz.func205.trans (congrArg some (by kernel_rfl))⟩
  t0 := Tryz.underlying0
  a0 := Tryz.isAgg0
  z0 := Tryz.sizeOf0
  v0 := Tryz.zeroValue0
  t4 := Tryz.underlying4
  a4 := Tryz.isAgg4
  z4 := Tryz.sizeOf4
  v4 := Tryz.zeroValue4
  t23 := Tryz.underlying64
  a23 := Tryz.isAgg64
  z23 := Tryz.sizeOf64
  v23 := Tryz.zeroValue64
  t26 := Tryz.underlying3
  a26 := Tryz.isAgg3
  z26 := Tryz.sizeOf3
  v26 := Tryz.zeroValue3
  t27 := Tryz.underlying229
  a27 := Tryz.isAgg229
  z27 := Tryz.sizeOf229
  v27 := Tryz.zeroValue229
  t28 := Tryz.underlying230
  a28 := Tryz.isAgg230
  z28 := Tryz.sizeOf230
  v28 := Tryz.zeroValue230
  t33 := Tryz.underlying24
  a33 := Tryz.isAgg24
  z33 := Tryz.sizeOf24
  v33 := Tryz.zeroValue24 }
end Go.Proofs

namespace Go.Vl
open Go Go.Proofs
theorem sat_ext {g : Gh} {w w' : World} {A : SP} (h : sat g w A) (hh : ∀ (k : Nat) (o : Obj), w.heap[k]? = some o → w'.heap[k]? = some o) (h1 : w'.os = w.os) (h2 : w'.tape = w.tape) (h3 : w'.output = w.output) : sat g w' A :=
  ⟨h1.trans h.os, h2.trans h.tape, h3.trans h.out, let ⟨x, ha, hx⟩ := h.hp; ⟨x, ha, fun b o f hb => hh _ _ (hx b o f hb)⟩⟩
def putL (off : Nat) (ys : List Value) (L : List Value) : List Value := L.mapIdx fun k x => if off ≤ k ∧ k < off + ys.length then ys.getD (k - off) x else x
end Go.Vl

namespace Go.Vl
open Go Go.Proofs
/-- An iterator over map b, begun at a clock; the entries that it has handed out, by the times of their coming. -/
def mit (b since : Nat) (seen : List Nat) (c : Nat) : Obj := .mapIter (some b) since seen.toArray c
def nxV (ik : IntKind) (o : Option ME) : Value := match o with
  | none => .tuple #[.bool false]
  | some e => .tuple #[.bool true, .int ik e.k, e.v]
def nxI (b c : Nat) (seen : List Nat) (o : Option ME) : Obj := match o with
  | none => mit b c seen c
  | some e => mit b c (seen ++ [e.b]) c
/-- What a step of an iterator hands out. -/
structure NxP (M : MS) (seen : List Nat) (o : Option ME) : Prop where
  no : o = none → ∀ e ∈ M.D, e.b ∈ seen
  yes : ∀ e, o = some e → e ∈ M.D ∧ e.b ∉ seen
theorem er_map {α β : Type} (f : α → β) : ∀ (l : List α) (i : Nat), (l.map f).eraseIdx i = (l.eraseIdx i).map f
  | [], _ => rfl
  | _ :: _, 0 => rfl
  | x :: l, i + 1 => congrArg (f x :: ·) (er_map f l i)
section
variable {P : Program} {n : Nat} {ρ : Env} {A R : SP} {C : SP → SP} {dst : Option Tmp} {ty : TypeId} {pos : String} {after : Array Edge} {gd : Option (Nat × Bool)} {ik : IntKind} {kt et t : TypeId} {x y : Operand} {b r : Nat} {M M' : MS} {a : Int} {A' : SP} {z : Value} {seen : List Nat}
theorem o_delete (hu : P.underlying t = some (.map kt et)) (hk : P.underlying kt = some (.int ik)) {t' : TypeId} (hx : ev n ρ x = .map (some b)) (hy : ev n ρ y = .int ik a) (hup : Upd A b (mpo ik M) (mpo ik M') A') (he : M.del a = M') :
    OpX P n ρ A ⟨dst, .call { callee := .builtin .delete, args := #[x, y], argTypes := #[t, t'] }, ty, pos, after, gd⟩ (fun v B => v = .tuple #[] ∧ B = A') := fun g w hs => by
  have h := hup.has g w hs
  refine ⟨.tuple #[], { w with heap := w.heap.setIfInBounds b (mpo ik M') }, A', ?_, hup.sat hs (set_heap h) rfl rfl rfl, rfl, rfl⟩
  simp only [execOp, resolve, List.map_toArray, List.map_cons, List.map_nil, hx, hy]
  rw [run_bind (w' := w) (a := ⟨.builtin .delete #[t, t'] ty _, #[.map (some b), .int ik a]⟩) (by rfl)]
  simp only [invoke, builtin]
  rw [run_bind (w' := { w with heap := w.heap.setIfInBounds b (mpo ik M') }) (a := .tuple #[])]
  · rfl
  unfold Builtin.delete_
  simp only [List.getElem?_toArray, List.getElem?_cons_zero, List.getElem?_cons_succ]
  rw [run_bind (run_und hu)]
  simp only []
  rw [run_bind (run_getMap h)]
  simp only [mpo]
  rw [run_bind (run_checkKey hk), run_bind (run_findKey hk)]
  subst he
  unfold MS.del
  cases hf : mfind M.D a 0 with
  | none => simp only []; rw [run_bind (run_setMap h)]; rfl
  | some p =>
    obtain ⟨i, u0⟩ := p
    obtain ⟨hi, h1, _⟩ := mfind_some hf
    simp only []
    have e : (M.D.map (ment ik)).toArray.eraseIdxIfInBounds i = ((M.D.eraseIdx i).map (ment ik)).toArray := by
      unfold Array.eraseIdxIfInBounds
      rw [dif_pos (by simpa using hi)]
      apply Array.ext'
      simp [er_map]
    rw [e, run_bind (run_setMap h)]; rfl
end
/-- The entries that a loop has met. -/
structure Vis (M : MS) (vis : List ME) : Prop where
  sub : ∀ e ∈ vis, e ∈ M.D
  nd : (vis.map ME.b).Nodup
end Go.Vl

namespace Go.Vl
open Go Go.Proofs
open Go.RowKit Go.Maps Go.Sort Go.Shelf Go.Proofs in
theorem Keys_c {A : SP} {b : Nat} : Fn Tryz.prog 151 #[.map (some b)] A (fun v B => ∃ k, v = .func (.func 205) #[] #[.pointer (some ⟨k, 0, none⟩)] ∧ B = A * pt k (cl [.map (some b)] (Go.Proofs.Tryz.keysA_ren.t 23))) := by
  intro g w hs
  refine (callsIn_wide (n := 6)).1 ((AnyZI.keys_in Go.Proofs.Tryz.keysA Fence.wide 6 trivial rfl (some b) w).mono ?_); rintro e w' ⟨rfl, rfl⟩; exact ⟨_, _, rfl, ⟨w.heap.size, rfl, rfl⟩, hs.alloc _⟩
def rdK : Value → Option (DataW Unit × List MemPlace) := fun _ => some (.lit (.bool true), [])
theorem key_lit {k : Int} (hk : -9223372036854775808 ≤ k ∧ k ≤ 9223372036854775807) : keyOf Tryz.prog (Go.Proofs.Tryz.keysA_ren.t 26) (.int .i64 k) = some (.int .i64 k) := by
  have hu : Tryz.prog.underlying (Go.Proofs.Tryz.keysA_ren.t 26) = some (.int .i64) := by kernel_rfl
  have hwf : (Lit.int .i64 k).wf = true := Go.WalkArith.wf_i64 hk
  unfold keyOf
  rw [hu]
  simp only [mapKey, hu]
  rw [if_pos ⟨trivial, hwf⟩]
theorem ment_rd {e : ME} (hk : -9223372036854775808 ≤ e.k ∧ e.k ≤ 9223372036854775807) : Go.WideElems.rd Tryz.prog (Go.Proofs.Tryz.keysA_ren.t 26) rdK (ment .i64 e) = some (.int .i64 e.k, .lit (.bool true)) := by
  unfold Go.WideElems.rd ment
  simp only []
  rw [key_lit hk]; rfl
theorem ins_perm {H : Type} (x : Lit × DataW H) : ∀ l : List (Lit × DataW H), (DataW.insert x l).Perm (x :: l)
  | [] => List.Perm.refl _
  | y :: r => by
    unfold DataW.insert
    split
    · exact List.Perm.refl _
    · exact ((ins_perm x r).cons y).trans (List.Perm.swap x y r)
theorem fold_perm {H : Type} : ∀ l : List (Lit × DataW H), (l.foldr DataW.insert []).Perm l
  | [] => List.Perm.refl _
  | x :: l => (ins_perm x _).trans ((fold_perm l).cons x)
theorem owns_mpo {w : World} {b : Nat} {M : MS} (hb : w.heap[b]? = some (mpo .i64 M)) (hw : WfM M) (hk : ∀ e ∈ M.D, -9223372036854775808 ≤ e.k ∧ e.k ≤ 9223372036854775807) (hl : M.D.length ≤ 4194304) :
    ∃ D0 : DataW Unit, w.ownsMap Tryz.prog (Go.Proofs.Tryz.keysA_ren.t 26) rdK b M.D.length D0 ∧ (Go.intKeys D0).Perm (M.D.map ME.k) ∧ Go.Maps.size D0 = M.D.length := by
  have hmap : ∀ D : List ME, (∀ e ∈ D, -9223372036854775808 ≤ e.k ∧ e.k ≤ 9223372036854775807) → (D.map (ment .i64)).map (Go.WideElems.rg Tryz.prog (Go.Proofs.Tryz.keysA_ren.t 26) rdK) = D.map fun e => (Lit.int .i64 e.k, (DataW.lit (.bool true) : DataW Unit)) := fun D h => by
    rw [List.map_map]
    refine List.map_congr_left fun e he => ?_
    have h9 := Go.WideElems.rg_of (ment_rd (h e he))
    rw [Function.comp_apply, h9]
  refine ⟨.map ((M.D.map fun e => (Lit.int .i64 e.k, DataW.lit (.bool true))).foldr DataW.insert []), ⟨(M.D.map (ment .i64)).toArray, M.c, hb, ⟨?_, ⟨?_, ?_, ?_⟩, ?_⟩, ?_, ?_⟩, ?_, ?_⟩
  · simp only [List.size_toArray, List.length_map]; exact Nat.le_trans hl (by decide)
  · intro x hx
    obtain ⟨e, he, rfl⟩ := List.mem_map.1 (by simpa using hx)
    exact hw.past e he
  · simp only [List.map_map]; exact hw.born
  · simp only [List.map_map]
    have := hw.keys
    rw [show ((fun x => x.key) ∘ ment .i64 : ME → Value) = (fun k => Value.int .i64 k) ∘ ME.k from rfl, ← List.map_map]
    exact List.Pairwise.map _ (fun a b hab e => hab (by simpa using e)) this
  · intro x hx
    obtain ⟨e, he, rfl⟩ := List.mem_map.1 (by simpa using hx)
    exact ⟨_, ment_rd (hk e he)⟩
  · simp
  · rw [hmap M.D hk]
  · unfold Go.intKeys
    have := ((fold_perm (M.D.map fun e => (Lit.int .i64 e.k, (DataW.lit (.bool true) : DataW Unit)))).map (fun p => Go.intOf p.1))
    refine this.trans ?_
    rw [List.map_map]
    exact List.Perm.refl _
  · have := (fold_perm (M.D.map fun e => (Lit.int .i64 e.k, (DataW.lit (.bool true) : DataW Unit)))).length_eq
    simpa [Go.Maps.size] using this
theorem sat_below {g : Gh} {w w' : World} {A : SP} (h : sat g w A) (hb : Go.RowKit.Below w.heap.size w w') : sat g w' A :=
  sat_ext h (fun k o hk => by
    have : k < w.heap.size := by
      rcases Nat.lt_or_ge k w.heap.size with h1 | h1
      · exact h1
      · rw [Array.getElem?_eq_none h1] at hk; cases hk
    rw [hb.block k this]; exact hk) hb.os hb.tape hb.output
theorem sat_more {g : Gh} {w w' : World} {A : SP} {b : Nat} {o : Obj} (h : sat g w A) (hb : Go.RowKit.Below w.heap.size w w') (h1 : w.heap.size ≤ b) (h2 : w'.heap[b]? = some o) : sat g w' (A * pt b o) := by
  have hs := sat_below h hb
  refine ⟨hs.os, hs.tape, hs.out, ?_⟩
  obtain ⟨x, ha, hx⟩ := h.hp
  have hn : x b = none := by
    cases hxk : x b with
    | none => rfl
    | some v => have := hx b v.1 v.2 hxk; rw [Array.getElem?_eq_none h1] at this; cases this
  refine ⟨x.un fun k => if k = b then some (o, false) else none, ⟨x, _, fun k => ?_, rfl, ha, rfl⟩, fun k v f hv => ?_⟩
  · by_cases hk : k = b
    · subst hk; exact .inl hn
    · right; left; simp [hk]
  · by_cases hk : k = b
    · subst hk
      simp [Hp.un, hn] at hv
      rw [← hv.1]; exact h2
    · have hv' : x k = some (v, f) := by
        cases hxk : x k with
        | none => simp [Hp.un, hxk, hk] at hv
        | some u => simp [Hp.un, hxk] at hv; rw [hv]
      have h3 := hx k v f hv'
      have : k < w.heap.size := by
        rcases Nat.lt_or_ge k w.heap.size with h4 | h4
        · exact h4
        · rw [Array.getElem?_eq_none h4] at h3; cases h3
      rw [hb.block k this]; exact h3
open Go.RowKit Go.Maps Go.Sort Go.Shelf Go.Proofs in
set_option maxHeartbeats 1000000 in
theorem Sorted_c {A : SP} {b k : Nat} {M : MS} (hm : Has A b (mpo .i64 M)) (hk : Has A k (cl [.map (some b)] (Go.Proofs.Tryz.keysA_ren.t 23))) (hw : WfM M) (hb : ∀ e ∈ M.D, -9223372036854775808 ≤ e.k ∧ e.k ≤ 9223372036854775807) (hl : M.D.length ≤ 4194304) :
    Fn Tryz.prog 150 #[.func (.func 205) #[] #[.pointer (some ⟨k, 0, none⟩)]] A (fun v B => ∃ a c, v = .slice a M.D.length c ∧ M.D.length ≤ c ∧ B = A * Sl 1 (.slice a M.D.length c) M.D.length (ints ((M.D.map ME.k).mergeSort fun x y => decide (x ≤ y)))) := by
  intro g w hs
  obtain ⟨D0, hown, hperm, hsize⟩ := owns_mpo (hm g w hs) hw hb hl
  have hkb := hk g w hs
  have hks : k < w.heap.size := by
    rcases Nat.lt_or_ge k w.heap.size with h | h
    · exact h
    · rw [Array.getElem?_eq_none h] at hkb; cases hkb
  have hsorts : AnyZI.SortsIn Tryz.prog Go.Proofs.Tryz.sortedA_ren Fence.wide 5 :=
    ⟨fun blk off cap ss W hH hblk hsz => callsIn_wide.2 (AnyM.slices_Sort_int Go.Proofs.Tryz.sortA blk off cap ss W hH hblk hsz),
     fun p cap W => callsIn_wide.2 (AnyM.slices_Sort_int_none Go.Proofs.Tryz.sortA p cap W)⟩
  have hseq : SeqGives Fence.wide 3 Tryz.prog 205 #[.pointer (some ⟨k, 0, none⟩)] encZ (fun ss => ss.Perm (intKeys D0)) (Maps.size D0) w :=
    AnyZI.keys_gives (ρ := Go.Proofs.Tryz.keysA_ren) { Go.Proofs.Tryz.keysA with } Fence.wide _ trivial rfl (by omega) k b M.D.length D0 w hks (by simp [World.cell?, hkb, cl]) hown
  have cS := AnyZI.sorted_in Go.Proofs.Tryz.sortedA Fence.wide 6 trivial trivial trivial trivial rfl (by omega) hsorts (enters_of Go.Proofs.Tryz.func158 (by kernel_rfl) rfl) 205 #[.pointer (some ⟨k, 0, none⟩)] trivial (enters_of Go.Proofs.Tryz.func205 (by kernel_rfl) rfl) _ _ (by rw [hsize]; exact Nat.le_trans hl (by decide)) (by rw [hsize]; omega) w hseq
  refine (callsIn_wide (n := 6)).1 (cS.mono ?_); rintro e w' ⟨v, ss, rfl, hS, hrow, hnil, hbl⟩
  have hlen : ss.length = M.D.length := by rw [(hS.trans hperm).length_eq, List.length_map]
  have hms : (ss.mergeSort fun x y => decide (x ≤ y)) = (M.D.map ME.k).mergeSort fun x y => decide (x ≤ y) := mergeSort_of_perm_i (hS.trans hperm)
  rw [hlen, hms] at hrow
  have he : ∀ zs : List Int, zs.map encZ = ints zs := fun zs => rfl
  rw [he] at hrow
  rcases hrow.2 with ⟨rfl, hz⟩ | ⟨gb, cap, cur, rfl, hbase, hgb, r1, r2, r3, r4⟩
  · refine ⟨_, _, rfl, ⟨none, 0, by rw [hz], by omega, rfl⟩, ?_⟩
    have : (M.D.map ME.k) = [] := List.eq_nil_of_length_eq_zero (by rw [List.length_map]; exact hz)
    rw [this, List.mergeSort_nil, hz]
    exact sl_nil (sat_below hs hbl)
  · refine ⟨_, _, rfl, ⟨some ⟨gb, 0, none⟩, cap, rfl, r1, rfl⟩, ?_⟩
    refine sl_new (l := cur.toList) (E := Go.Proofs.Tryz.sortedA_ren.t 26) ?_ r1 (by rw [Array.length_toList]; omega) (by simpa using r4); exact sat_more hs hbl hbase (by rw [hgb]; rfl)
end Go.Vl

namespace Go.Vl
open Go Go.Proofs
/-! ### Structs of ints that are held against each other -/
def intF (P : Program) (f : Field) : Bool := f.name != "_" && plainE P f.type && (match P.underlying f.type with | some (.int _) => true | _ => false)
/-- A struct whose fields are ints, one a cell. -/
def flatI (P : Program) (fs : Array Field) (n : Nat) : Bool := ((fs.toList.map fun f => f.offset) == List.range n) && fs.toList.all (intF P)
section
variable {P : Program} {n : Nat} {ρ : Env} {A : SP} {dst : Option Tmp} {ty : TypeId} {pos : String} {after : Array Edge} {gd : Option (Nat × Bool)}
/-- Strings. -/
theorem o_eqstr {t t' : TypeId} {x y : Operand} {a b : ByteArray} (hx : ev n ρ x = .string a) (hy : ev n ρ y = .string b) :
    OpV P n ρ A ⟨dst, .binOp .eql t x y t', ty, pos, after, gd⟩ (.bool (a.toList == b.toList)) :=
  opv_of fun w => by
  simp only [execOp, hx, hy]
  rw [run_bind (w' := w) (a := .bool (a.toList == b.toList))]
  · rfl
  rw [run_bind (w' := w) (a := ())]
  · simp [binOp, Op.stringOp, pure]
  · rfl
/-! ### A slice as an array -/
/-! ### 32 bits -/
theorem o_compl32 {t : TypeId} {x : Operand} {a : Nat} (hx : ev n ρ x = .int .u32 (a : Nat)) (ha : a < 4294967296) : OpV P n ρ A ⟨dst, .unOp .xor t x, ty, pos, after, gd⟩ (.int .u32 ((a ^^^ 4294967295 : Nat) : Int)) := (o_compl hx).cast (by
  have h1 : (BitVec.ofInt IntKind.u32.bits (if IntKind.u32.signed then -1 else IntKind.u32.max)).toNat = 4294967295 := by decide
  rw [BitVec.toNat_xor, h1, bv_of .u32 a (by simpa [IntKind.bits] using ha), Nat.xor_comm, wrap_fit .u32 rfl _ (Nat.xor_lt_two_pow (by simpa [IntKind.bits] using ha) (by decide))])
theorem o_neg32 {t : TypeId} {x : Operand} {a : Nat} (hx : ev n ρ x = .int .u32 (a : Nat)) (ha : a < 2) : OpV P n ρ A ⟨dst, .unOp .neg t x, ty, pos, after, gd⟩ (.int .u32 ((a * 4294967295 : Nat) : Int)) := (o_neg hx).cast (by
  have : a = 0 ∨ a = 1 := by omega
  rcases this with rfl | rfl <;> rfl)
/-! ### Bytes that may be a string's -/
end
/-- A string of bytes. -/
def sob (xs : List Nat) : ByteArray := ⟨(xs.map fun n => UInt8.ofNat n).toArray⟩
theorem o_b2s {P : Program} {n : Nat} {ρ : Env} {A : SP} {dst : Option Tmp} {ty : TypeId} {pos : String} {after : Array Edge} {gd : Option (Nat × Bool)} {s t e : TypeId} {x : Operand} {a : Option Addr} {m c : Nat} {xs : List Nat} (hs : P.underlying s = some (.slice e)) (he : P.underlying e = some (.int .u8)) (ht : P.underlying t = some .string)
    (hx : ev n ρ x = .slice a m c) (hr : Rs A a (bys xs)) (hm : xs.length = m) (h0 : 0 < m) : OpV P n ρ A ⟨dst, .convert s t x, ty, pos, after, gd⟩ (.string (sob xs)) := fun g w hsat => by
  have h00 : (bys xs)[0]? = some ((bys xs)[0]'(by rw [bys_length]; omega)) := List.getElem?_eq_getElem _
  obtain ⟨b, o, rfl, _⟩ := hr g w hsat 0 _ h00
  simp only [execOp, hx]
  rw [run_bind (w' := w) (a := .string (sob xs))]
  · rfl
  rw [run_convert_bytes_arg w s e hs he b o m c (xs.map fun (q : Nat) => (q : Int)) (by simp [hm]) (fun i hi => ?_) t ht]
  · simp [strOfNums, sob, List.map_map, Function.comp_def]
  · have hi' : i < xs.length := by omega
    have h1 := bys_at hi'
    obtain ⟨b', o', e', hc⟩ := hr g w hsat i _ h1
    simp only [Option.some.injEq, Addr.mk.injEq, and_true] at e'
    obtain ⟨rfl, rfl⟩ := e'
    rw [hc]
    simp [hi']
end Go.Vl

namespace Go.Vl
open Go Go.Proofs
/-! ### The sum's law -/
def crs (r : Nat) : Nat := (r / 2) ^^^ (2197175160 * (r % 2))
def crk : Nat → Nat → Nat
  | 0, r => r
  | k + 1, r => crs (crk k r)
def crL (r : Nat) : List Nat → Nat
  | [] => r
  | x :: xs => crL (crk 8 (r ^^^ x)) xs
def crc (s : Nat) (xs : List Nat) : Nat := crL (s ^^^ 4294967295) xs ^^^ 4294967295
theorem x32 {a b : Nat} (ha : a < 4294967296) (hb : b < 4294967296) : a ^^^ b < 4294967296 := Nat.xor_lt_two_pow (n := 32) ha hb
theorem crs_lt {r : Nat} (h : r < 4294967296) : crs r < 4294967296 := x32 (by omega) (by omega)
theorem crk_lt {r : Nat} (h : r < 4294967296) : ∀ k, crk k r < 4294967296
  | 0 => h
  | k + 1 => crs_lt (crk_lt h k)
theorem crL_lt : ∀ {xs : List Nat} {r : Nat}, r < 4294967296 → (∀ x ∈ xs, x < 256) → crL r xs < 4294967296
  | [], _, h, _ => h
  | x :: xs, r, h, hb => crL_lt (xs := xs) (crk_lt (x32 h (by have := hb x (by simp); omega)) 8) fun y hy => hb y (by simp [hy])
theorem crL_snoc : ∀ {xs : List Nat} {r x : Nat}, crL r (xs ++ [x]) = crk 8 (crL r xs ^^^ x)
  | [], _, _ => rfl
  | y :: ys, r, x => by show crL _ (ys ++ [x]) = _; rw [crL_snoc]; rfl
theorem crL_take {xs : List Nat} {r i : Nat} (h : i < xs.length) : crL r (xs.take (i + 1)) = crk 8 (crL r (xs.take i) ^^^ xs[i]) := by
  rw [List.take_succ_eq_append_getElem h, crL_snoc]
theorem crc_lt {s : Nat} {xs : List Nat} (h : s < 4294967296) (hb : ∀ x ∈ xs, x < 256) : crc s xs < 4294967296 := x32 (crL_lt (x32 h (by decide)) hb) (by decide)
theorem tk_b {xs : List Nat} {i : Nat} (hb : ∀ x ∈ xs, x < 256) : ∀ x ∈ xs.take i, x < 256 := fun x hx => hb x (List.mem_of_mem_take hx)
theorem and1 (r : Nat) : r &&& 1 = r % 2 := Nat.and_one_is_mod r
theorem crs_and (r : Nat) : (r / 2) ^^^ (2197175160 &&& (r % 2 * 4294967295)) = crs r := by
  unfold crs
  have : r % 2 = 0 ∨ r % 2 = 1 := by omega
  rcases this with h | h <;> rw [h] <;> rfl
theorem crk_and (k c : Nat) : (crk k c / 2 ^ 1) ^^^ (2197175160 &&& (crk k c % 2 * 4294967295)) = crk (k + 1) c := crs_and _
theorem crk_0 (c : Nat) : c = crk 0 c := rfl
theorem crL_0 (c : Nat) (xs : List Nat) : c = crL c (xs.take 0) := by rw [List.take_zero]; rfl
theorem crc_of (s : Nat) (xs : List Nat) {m : Nat} (h : xs.length = m) : crL (s ^^^ 4294967295) (xs.take m) ^^^ 4294967295 = crc s xs := by rw [← h, List.take_length]; rfl
theorem xor_half (a b : Nat) : (a ^^^ b) / 2 = a / 2 ^^^ b / 2 := by
  have := Nat.shiftRight_xor_distrib (a := a) (b := b) (i := 1)
  simpa [Nat.shiftRight_eq_div_pow] using this
theorem xor_low (a b : Nat) : (a ^^^ b) % 2 = (a % 2 + b % 2) % 2 := by
  rw [← Nat.and_one_is_mod, Nat.and_xor_distrib_right, Nat.and_one_is_mod, Nat.and_one_is_mod]
  have h1 : a % 2 = 0 ∨ a % 2 = 1 := by omega
  have h2 : b % 2 = 0 ∨ b % 2 = 1 := by omega
  rcases h1 with h1 | h1 <;> rcases h2 with h2 | h2 <;> rw [h1, h2] <;> rfl
/-- The document's register: the sum's, and what of the byte is not yet in it. -/
def rfk (k c x : Nat) : Nat := crk k c ^^^ x / 2 ^ k
theorem rfk_zero {c x : Nat} : rfk 0 (c ^^^ x) x = c := by
  unfold rfk crk; rw [Nat.pow_zero, Nat.div_one, Nat.xor_assoc, Nat.xor_self, Nat.xor_zero]
theorem rfk_eight {c x : Nat} (h : x < 256) : rfk 8 c x = crk 8 c := by
  unfold rfk; rw [Nat.div_eq_of_lt h, Nat.xor_zero]
theorem rfk_step {k c x : Nat} : rfk (k + 1) c x = if (x / 2 ^ k % 2 ≠ rfk k c x % 2) then (rfk k c x / 2) ^^^ 2197175160 else rfk k c x / 2 := by
  have h1 : rfk k c x / 2 = crk k c / 2 ^^^ x / 2 ^ (k + 1) := by unfold rfk; rw [xor_half, Nat.pow_succ, Nat.div_div_eq_div_mul]
  have h2 : rfk k c x % 2 = (crk k c % 2 + x / 2 ^ k % 2) % 2 := xor_low _ _
  have h3 : rfk (k + 1) c x = crs (crk k c) ^^^ x / 2 ^ (k + 1) := rfl
  rw [h1, h3]
  unfold crs
  by_cases h : crk k c % 2 = 1
  · rw [if_pos (by omega), h]; ac_rfl
  · have h0 : crk k c % 2 = 0 := by omega
    rw [if_neg (by omega), h0]; simp
theorem rfk_t {k c x : Nat} (h : ((x / 2 ^ k % 2 : Nat) : Int) ≠ ((rfk k c x % 2 : Nat) : Int)) : rfk k c x / 2 ^^^ 2197175160 = rfk (k + 1) c x := by
  rw [rfk_step, if_pos (by omega)]
theorem rfk_f {k c x : Nat} (h : ((x / 2 ^ k % 2 : Nat) : Int) = ((rfk k c x % 2 : Nat) : Int)) : rfk k c x / 2 = rfk (k + 1) c x := by
  rw [rfk_step, if_neg (by omega)]
section
variable {P : Program} {n : Nat} {ρ : Env} {A : SP} {dst : Option Tmp} {ty : TypeId} {pos : String} {after : Array Edge} {gd : Option (Nat × Bool)}
theorem o_quoU {t t' : TypeId} {x y : Operand} {k : IntKind} {a b : Nat} (hk : k.signed = false) (hx : ev n ρ x = .int k (a : Nat)) (hy : ev n ρ y = .int k (b : Nat)) (hb : 0 < b) (ha : a < 2 ^ k.bits) : OpV P n ρ A ⟨dst, .binOp .quo t x y t', ty, pos, after, gd⟩ (.int k ((a / b : Nat) : Int)) := (o_quo hx hy (by omega)).cast (by
  rw [Int.tdiv_eq_ediv_of_nonneg (by omega), show (a : Int) / (b : Int) = ((a / b : Nat) : Int) by simp, wrap_fit k hk _ (Nat.lt_of_le_of_lt (Nat.div_le_self _ _) ha)])
theorem o_remU {t t' : TypeId} {x y : Operand} {k : IntKind} {a b : Nat} (hx : ev n ρ x = .int k (a : Nat)) (hy : ev n ρ y = .int k (b : Nat)) (hb : 0 < b) : OpV P n ρ A ⟨dst, .binOp .rem t x y t', ty, pos, after, gd⟩ (.int k ((a % b : Nat) : Int)) := (o_rem hx hy (by omega)).cast (by
  rw [Int.tmod_eq_emod_of_nonneg (by omega), show (a : Int) % (b : Int) = ((a % b : Nat) : Int) by simp])
end
theorem rfk_lt {k c x : Nat} (hc : c < 4294967296) (hx : x < 256) : rfk k c x < 4294967296 := by
  refine x32 (crk_lt hc k) ?_
  have := Nat.div_le_self x (2 ^ k); omega
attribute [local irreducible] crk crL crc Sl pt ro
theorem More_c {A : SP} {a : Option Addr} {m c s : Nat} {xs : List Nat} (hr : Rs A a (bys xs) := by repeat (first | assumption | with_reducible exact rs_sl | with_reducible exact rs_pt0 | exact rs_none | apply Rs.left)) (hm : xs.length = m := by first | assumption | rfl) (hb : ∀ x ∈ xs, x < 256 := by assumption) (hs : s < 4294967296 := by omega) (hl : m ≤ 1099511627776 := by omega) :
    Fn Tryz.prog 254 #[.int .u32 (s : Nat), .slice a m c] (A) (fun r B => r = .int .u32 ((crc s xs : Nat) : Int) ∧ A = B) := by
  refine fn_enterW (args := [.int .u32 (s : Nat), .slice a m c]) Tryz.func254 rfl Tryz.ntmps254 (by simp) ?_; refine sr ?_; refine tla ?_; refine nq ?_; refine sr ?_; refine tlm ?_; refine tv (o_compl32 rfl hs) ?_; refine tla ?_; refine nq ?_; refine tc_seq ?_; refine sr ?_; refine tlm ?_; refine tv (o_len Tryz.underlying57 rfl) ?_; refine tlm ?_; refine nq ?_; refine tc_block ?_; refine tc_loop (fun kk ρ BB => ∃ (i : Nat), (i ≤ m) ∧ kk = m - i ∧ ρ 5 = .int .u32 ((crL (s ^^^ 4294967295) (xs.take i) : Nat) : Int) ∧ ρ 13 = .int .i64 (i : Nat) ∧ ρ 11 = .slice a m c ∧ ρ 12 = .int .i64 (m : Nat) ∧ BB = A) (m := m - (0)) ?_ ?_
  · exact ⟨0, by omega, rfl, congrArg (fun z : Nat => Value.int .u32 (z : Int)) (crL_0 _ _), rfl, rfl, rfl, rfl⟩
  · intro k ρ B hI
    obtain ⟨i, hp0, hkk1, hE5, hE13, hE11, hE12, hBA⟩ := hI
    obtain rfl := hBA.symm
    refine tc_env (d := 5) hE5 ?_; refine tc_env (d := 13) hE13 ?_; refine tc_env (d := 11) hE11 ?_; refine tc_env (d := 12) hE12 ?_
    clear hE5 hE13 hE11 hE12
    refine sr ?_; refine tv (o_lss rfl rfl) ?_; refine nq ?_; refine tc_seq ?_; refine tc_cond rfl (fun h => ?_) (fun h => ?_)
    · have hi : i < xs.length := by simp at h; omega
      have hx256 := hb _ (List.getElem_mem hi)
      have hC := crL_lt (x32 hs (by decide : 4294967295 < 4294967296)) (tk_b (i := i) hb)
      have hR := x32 hC (show xs[i] < 4294967296 by omega)
      refine tc_skip ?_; refine q_then_n ?_; refine tc_seq ?_; refine tc_block ?_; refine sr ?_; refine tv (o_ixP1 Tryz.underlying57 sz5 rfl rfl (by first | omega | (simp only [bys_length, ints_length, wds_length, bos_length, List.length_append, List.length_take, List.length_drop, List.length_singleton]; omega)) (by repeat (first | exact nn_some | with_reducible exact nn_sl (by decide) | exact nn_rs (by assumption) (fun _ => by first | omega | (simp only [bys_length, ints_length, wds_length, bos_length, List.length_append, List.length_take, List.length_drop, List.length_singleton]; omega)) | apply Nn.left))) ?_; refine tv (o_ldP p5 rfl hr (bys_at (by assumption))) ?_; refine tla ?_; refine nq ?_; refine sr ?_; refine tlm ?_; refine tlm ?_; refine tv (by first | exact o_conv32 Tryz.underlying5 Tryz.underlying32 rfl | exact o_conv Tryz.underlying5 Tryz.underlying32 rfl) ?_; refine tl_env (d := 19) (v := .int .u32 ((xs[i] : Nat) : Int)) (congrArg (fun z : Nat => Value.int .u32 (z : Int)) (Nat.mod_eq_of_lt (by omega))) ?_; refine tv (o_xorN rfl rfl rfl (by show _ < 4294967296; assumption) (by show _ < 4294967296; omega)) ?_; refine tla ?_; refine nq ?_; refine sr ?_; refine tlm ?_; refine nq ?_; refine tc_block ?_; refine tc_loop (fun kk ρ BB => ∃ (k : Nat), (k ≤ 8) ∧ kk = 8 - k ∧ ρ 5 = .int .u32 ((crk k (crL (s ^^^ 4294967295) (xs.take i) ^^^ xs[i]) : Nat) : Int) ∧ ρ 21 = .int .i64 (k : Nat) ∧ ρ 11 = .slice a m c ∧ ρ 12 = .int .i64 (m : Nat) ∧ ρ 13 = .int .i64 (i : Nat) ∧ BB = A) (m := 8 - (0)) ?_ ?_
      · exact ⟨0, by omega, rfl, congrArg (fun z : Nat => Value.int .u32 (z : Int)) (crk_0 _), rfl, rfl, rfl, rfl, rfl⟩
      · intro k ρ B hI
        obtain ⟨k, hp0, hkk2, hE5, hE21, hE11, hE12, hE13, hBA⟩ := hI
        obtain rfl := hBA.symm
        refine tc_env (d := 5) hE5 ?_; refine tc_env (d := 21) hE21 ?_; refine tc_env (d := 11) hE11 ?_; refine tc_env (d := 12) hE12 ?_; refine tc_env (d := 13) hE13 ?_
        clear hE5 hE21 hE11 hE12 hE13
        refine sr ?_; refine tv (o_lss rfl rfl) ?_; refine nq ?_; refine tc_seq ?_; refine tc_cond rfl (fun h => ?_) (fun h => ?_)
        · have hk := crk_lt hR k
          have hk8 : k < 8 := by simp at h; omega
          refine tc_skip ?_; refine q_then_n ?_; refine tc_seq ?_; refine tc_block ?_; refine sr ?_; refine tlm ?_; refine tv ((o_andN (b := 1) rfl rfl rfl (by show _ < 4294967296; assumption) (by decide)).cast (by rw [and1])) ?_; refine tla ?_; refine nq ?_; refine sr ?_; refine tlm ?_; refine tv (o_shrN (b := 1) rfl rfl rfl (by decide)) ?_; refine tla ?_; refine nq ?_; refine tc_reg ?_; refine tlm ?_; refine tlm ?_; refine tv (o_neg32 rfl (by omega)) ?_; refine tv (o_andN (a := 2197175160) rfl rfl rfl (by decide) (by show _ < 4294967296; omega)) ?_; refine tv (o_xorN rfl rfl rfl (by show _ < 4294967296; omega) (by show _ < 4294967296; exact Nat.and_lt_two_pow (n := 32) _ (by show _ < 4294967296; omega))) ?_; refine tla ?_; refine tl_nil ?_; refine q_block_n (q_then_n ?_); refine tc_reg ?_; refine tv (by first | exact o_addI rfl rfl (by omega) | exact o_add rfl rfl) ?_; refine tlm ?_; refine nq ?_; exact ⟨_, by omega, k + 1, by omega, rfl, congrArg (fun z : Nat => Value.int .u32 (z : Int)) (crk_and _ _), rfl, rfl, rfl, rfl, rfl⟩
        · obtain rfl : k = 8 := by simp at h; omega
          refine tc_exit ?_; refine q_then_e (q_then_e (q_block_x (q_block_n (q_then_n ?_)))); refine tc_reg ?_; refine tv (by first | exact o_addI rfl rfl (by omega) | exact o_add rfl rfl) ?_; refine tlm ?_; refine nq ?_; exact ⟨_, by omega, i + 1, by omega, rfl, congrArg (fun z : Nat => Value.int .u32 (z : Int)) (crL_take hi).symm, rfl, rfl, rfl, rfl⟩
    · obtain rfl : i = m := by simp at h; omega
      have hC2 := crL_lt (x32 hs (by decide : 4294967295 < 4294967296)) (tk_b (i := i) hb)
      refine tc_exit ?_; refine q_then_e (q_then_e (q_block_x (q_then_n ?_))); refine sr ?_; refine tlm ?_; refine tv (o_compl32 rfl hC2) ?_; refine tla ?_; refine nq ?_; refine tc_ret ?_; exact ⟨.int .u32 ((crc s xs : Nat) : Int), A, res1 rfl (congrArg (fun z : Nat => Value.int .u32 (z : Int)) (crc_of s xs hm)), fun _ _ h => h, rfl, rfl⟩
theorem MoreR_c {A : SP} {a : Option Addr} {m c s : Nat} {xs : List Nat} (hr : Rs A a (bys xs) := by repeat (first | assumption | with_reducible exact rs_sl | with_reducible exact rs_pt0 | exact rs_none | apply Rs.left)) (hm : xs.length = m := by first | assumption | rfl) (hb : ∀ x ∈ xs, x < 256 := by assumption) (hs : s < 4294967296 := by omega) (hl : m ≤ 1099511627776 := by omega) :
    Fn Tryz.prog 284 #[.int .u32 (s : Nat), .slice a m c] (A) (fun r B => r = .int .u32 ((crc s xs : Nat) : Int) ∧ A = B) := by
  refine fn_enterW (args := [.int .u32 (s : Nat), .slice a m c]) Tryz.func284 rfl Tryz.ntmps284 (by simp) ?_; refine sr ?_; refine tla ?_; refine nq ?_; refine sr ?_; refine tlm ?_; refine tv (by first | exact o_conv64 Tryz.underlying32 Tryz.underlying174 rfl | exact o_conv Tryz.underlying32 Tryz.underlying174 rfl) ?_; refine tl_env (d := 11) (v := .int .u64 ((s : Nat) : Int)) (congrArg (fun z : Nat => Value.int .u64 (z : Int)) (Nat.mod_eq_of_lt (by omega))) ?_; refine tv (o_xorN (b := 4294967295) rfl rfl rfl (by show _ < 18446744073709551616; omega) (by decide)) ?_; refine tla ?_; refine nq ?_; refine tc_seq ?_; refine sr ?_; refine tla ?_; refine nq ?_; refine tc_block ?_; refine tc_loop (fun kk ρ BB => ∃ (i : Nat), (i ≤ m) ∧ kk = m - i ∧ ρ 5 = .int .u64 ((crL (s ^^^ 4294967295) (xs.take i) : Nat) : Int) ∧ ρ 6 = .int .i64 (i : Nat) ∧ ρ 1 = .slice a m c ∧ BB = A) (m := m - (0)) ?_ ?_
  · exact ⟨0, by omega, rfl, congrArg (fun z : Nat => Value.int .u64 (z : Int)) (crL_0 _ _), rfl, rfl, rfl⟩
  · intro k ρ B hI
    obtain ⟨i, hp0, hkk1, hE5, hE6, hE1, hBA⟩ := hI
    obtain rfl := hBA.symm
    refine tc_env (d := 5) hE5 ?_; refine tc_env (d := 6) hE6 ?_; refine tc_env (d := 1) hE1 ?_
    clear hE5 hE6 hE1
    refine tc_seq ?_; refine sr ?_; refine tlm ?_; refine tlm ?_; refine tv (o_len Tryz.underlying57 rfl) ?_; refine tv (o_lss rfl rfl) ?_; refine nq ?_; refine tc_cond rfl (fun h => ?_) (fun h => ?_)
    · have hi : i < xs.length := by simp at h; omega
      have hx256 := hb _ (List.getElem_mem hi)
      have hC := crL_lt (x32 hs (by decide : 4294967295 < 4294967296)) (tk_b (i := i) hb)
      have hR := x32 hC (show xs[i] < 4294967296 by omega)
      refine tc_skip ?_; refine q_then_n ?_; refine tc_seq ?_; refine tc_block ?_; refine sr ?_; refine tla ?_; refine nq ?_; refine tc_block ?_; refine tc_loop (fun kk ρ BB => ∃ (k : Nat), (k ≤ 8) ∧ kk = 8 - k ∧ ρ 5 = .int .u64 ((rfk k (crL (s ^^^ 4294967295) (xs.take i) ^^^ xs[i]) xs[i] : Nat) : Int) ∧ ρ 7 = .int .i64 (k : Nat) ∧ ρ 1 = .slice a m c ∧ ρ 6 = .int .i64 (i : Nat) ∧ BB = A) (m := 8 - (0)) ?_ ?_
      · exact ⟨0, by omega, rfl, congrArg (fun z : Nat => Value.int .u64 (z : Int)) rfk_zero.symm, rfl, rfl, rfl, rfl⟩
      · intro k ρ B hI
        obtain ⟨k, hp0, hkk2, hE5, hE7, hE1, hE6, hBA⟩ := hI
        obtain rfl := hBA.symm
        refine tc_env (d := 5) hE5 ?_; refine tc_env (d := 7) hE7 ?_; refine tc_env (d := 1) hE1 ?_; refine tc_env (d := 6) hE6 ?_
        clear hE5 hE7 hE1 hE6
        refine tc_seq ?_; refine sr ?_; refine tlm ?_; refine tv (o_lss rfl rfl) ?_; refine nq ?_; refine tc_cond rfl (fun h => ?_) (fun h => ?_)
        · have hk8 : k < 8 := by simp at h; omega
          have hF := rfk_lt (k := k) hR hx256
          have hd := Nat.div_le_self xs[i] (2 ^ k)
          refine tc_skip ?_; refine q_then_n ?_; refine tc_seq ?_; refine tc_block ?_; refine sr ?_; refine tlm ?_; refine tlm ?_; refine tv (o_ixP1 Tryz.underlying57 sz5 rfl rfl (by first | omega | (simp only [bys_length, ints_length, wds_length, bos_length, List.length_append, List.length_take, List.length_drop, List.length_singleton]; omega)) (by repeat (first | exact nn_some | with_reducible exact nn_sl (by decide) | exact nn_rs (by assumption) (fun _ => by first | omega | (simp only [bys_length, ints_length, wds_length, bos_length, List.length_append, List.length_take, List.length_drop, List.length_singleton]; omega)) | apply Nn.left))) ?_; refine tv (o_ldP p5 rfl hr (bys_at (by assumption))) ?_; refine tlm ?_; refine tv (o_shrN (b := k) rfl rfl rfl (by show k ≤ 8; omega)) ?_; refine tv (by first | exact o_conv64 Tryz.underlying5 Tryz.underlying174 rfl | exact o_conv Tryz.underlying5 Tryz.underlying174 rfl) ?_; refine tl_env (d := 29) (v := .int .u64 ((xs[i] / 2 ^ k : Nat) : Int)) (congrArg (fun z : Nat => Value.int .u64 (z : Int)) (Nat.mod_eq_of_lt (by omega))) ?_; refine tv (o_remU (b := 2) rfl rfl (by decide)) ?_; refine tla ?_; refine nq ?_; refine sr ?_; refine tlm ?_; refine tlm ?_; refine tv (o_remU (b := 2) rfl rfl (by decide)) ?_
          refine tv (o_nei rfl rfl) ?_; refine tla ?_; refine nq ?_; refine sr ?_; refine tlm ?_; refine tv (o_quoU (b := 2) rfl rfl rfl (by decide) (by show _ < 18446744073709551616; omega)) ?_; refine tla ?_; refine nq ?_; refine sr ?_; refine tlm ?_; refine nq ?_; refine tc_cut (fun ρ BB => ρ 5 = .int .u64 ((rfk (k + 1) (crL (s ^^^ 4294967295) (xs.take i) ^^^ xs[i]) xs[i] : Nat) : Int) ∧ ρ 1 = .slice a m c ∧ ρ 6 = .int .i64 (i : Nat) ∧ ρ 7 = .int .i64 (k : Nat) ∧ BB = A) ?_ ?_
          · skip
            refine tc_cond rfl (fun h => ?_) (fun h => ?_)
            · try simp only [lv1, lv2, lv3, lv4, lv5, lv6, Bool.not_true, Bool.not_false] at h
              refine tc_reg ?_; refine tlm ?_; refine tv (o_xorN (b := 2197175160) rfl rfl rfl (by show _ < 18446744073709551616; omega) (by decide)) ?_; refine tla ?_; refine tl_nil ?_; exact ⟨by first | exact congrArg (fun z : Nat => Value.int .u64 (z : Int)) (rfk_t h) | exact congrArg (fun z : Nat => Value.int .u64 (z : Int)) (rfk_f (Classical.not_not.1 h)), rfl, rfl, rfl, rfl⟩
            · try simp only [lv1, lv2, lv3, lv4, lv5, lv6, Bool.not_true, Bool.not_false] at h
              refine tc_skip ?_; exact ⟨by first | exact congrArg (fun z : Nat => Value.int .u64 (z : Int)) (rfk_t h) | exact congrArg (fun z : Nat => Value.int .u64 (z : Int)) (rfk_f (Classical.not_not.1 h)), rfl, rfl, rfl, rfl⟩
          · intro ρ B hI
            obtain ⟨hE5, hE1, hE6, hE7, hBA⟩ := hI
            obtain rfl := hBA.symm
            refine q_block_n (q_then_n ?_); refine tc_env (d := 5) hE5 ?_; refine tc_env (d := 1) hE1 ?_; refine tc_env (d := 6) hE6 ?_; refine tc_env (d := 7) hE7 ?_
            clear hE5 hE1 hE6 hE7
            refine tc_reg ?_; refine tlm ?_; refine tv (by first | exact o_addI rfl rfl (by omega) | exact o_add rfl rfl) ?_; refine tla ?_; refine nq ?_; exact ⟨_, by omega, k + 1, by omega, rfl, rfl, rfl, rfl, rfl, rfl⟩
        · obtain rfl : k = 8 := by simp at h; omega
          refine tc_exit ?_; refine q_then_e (q_then_e (q_block_x (q_block_n (q_then_n ?_)))); refine tc_reg ?_; refine tlm ?_; refine tv (by first | exact o_addI rfl rfl (by omega) | exact o_add rfl rfl) ?_; refine tla ?_; refine nq ?_; exact ⟨_, by omega, i + 1, by omega, rfl, congrArg (fun z : Nat => Value.int .u64 (z : Int)) ((rfk_eight hx256).trans (crL_take hi).symm), rfl, rfl, rfl⟩
    · obtain rfl : i = m := by simp at h; omega
      have hC2 := crL_lt (x32 hs (by decide : 4294967295 < 4294967296)) (tk_b (i := i) hb)
      refine tc_exit ?_; refine q_then_e (q_then_e (q_block_x (q_then_n ?_))); refine sr ?_; refine tlm ?_; refine tv (o_xorN (b := 4294967295) rfl rfl rfl (by show _ < 18446744073709551616; omega) (by decide)) ?_; refine tv ((o_conv32 Tryz.underlying174 Tryz.underlying32 rfl).cast (congrArg (fun z : Nat => Value.int .u32 (z : Int)) (Nat.mod_eq_of_lt (x32 (b := 4294967295) hC2 (by decide))))) ?_; refine tla ?_; refine nq ?_; refine tc_ret ?_; exact ⟨.int .u32 ((crc s xs : Nat) : Int), A, res1 rfl (congrArg (fun z : Nat => Value.int .u32 (z : Int)) (crc_of s xs hm)), fun _ _ h => h, rfl, rfl⟩
end Go.Vl

namespace Go.Vl
open Go Go.Proofs
/-! ### Sums of parts -/
def crcs (ls : List (List Nat)) : Nat := ls.foldl crc 0
theorem crcs_take {ls : List (List Nat)} {i : Nat} (h : i < ls.length) : crcs (ls.take (i + 1)) = crc (crcs (ls.take i)) ls[i] := by
  unfold crcs; rw [List.take_succ_eq_append_getElem h, List.foldl_append]; rfl
theorem crcs_lt {ls : List (List Nat)} (hb : ∀ l ∈ ls, ∀ x ∈ l, x < 256) : crcs ls < 4294967296 := by
  unfold crcs
  have : ∀ (ls : List (List Nat)) (s : Nat), (∀ l ∈ ls, ∀ x ∈ l, x < 256) → s < 4294967296 → ls.foldl crc s < 4294967296 := by
    intro ls
    induction ls with
    | nil => intro s _ h; exact h
    | cons l ls ih => intro s hb h; exact ih _ (fun l hl => hb l (by simp [hl])) (crc_lt h (hb l (by simp)))
  exact this ls 0 hb (by decide)
attribute [local irreducible] crk crL crc Sl pt ro
theorem Sum_c {A : SP} {a : Option Addr} {m c : Nat} {ls : List (List Nat)} (hr : RdRows A a ls) (hm : ls.length = m := by first | assumption | rfl) (hb : ∀ l ∈ ls, ∀ x ∈ l, x < 256) (hl : ∀ l ∈ ls, l.length ≤ 1099511627776) (hm2 : m ≤ 1099511627776 := by omega) :
    Fn Tryz.prog 211 #[.slice a m c] (A) (fun r B => r = .int .u32 ((crcs ls : Nat) : Int) ∧ A = B) := by
  refine fn_enterW (args := [.slice a m c]) Tryz.func211 rfl Tryz.ntmps211 (by simp) ?_
  obtain ⟨vs, hvl, hra, hrows⟩ := hr
  have hra := rs_rd hra
  refine sr ?_; refine tla ?_; refine nq ?_; refine sr ?_; refine tla ?_; refine nq ?_; refine tc_seq ?_; refine sr ?_; refine tlm ?_; refine tv (o_len Tryz.underlying41 rfl) ?_; refine tlm ?_; refine nq ?_; refine tc_block ?_; refine tc_loop (fun kk ρ BB => ∃ (i : Nat), (i ≤ m) ∧ kk = m - i ∧ ρ 3 = .int .u32 ((crcs (ls.take i) : Nat) : Int) ∧ ρ 8 = .int .i64 (i : Nat) ∧ ρ 6 = .slice a m c ∧ ρ 7 = .int .i64 (m : Nat) ∧ BB = A) (m := m - (0)) ?_ ?_
  · exact ⟨0, by omega, rfl, rfl, rfl, rfl, rfl, rfl⟩
  · intro k ρ B hI
    obtain ⟨i, hp0, hkk1, hE3, hE8, hE6, hE7, hBA⟩ := hI
    obtain rfl := hBA.symm
    refine tc_env (d := 3) hE3 ?_; refine tc_env (d := 8) hE8 ?_; refine tc_env (d := 6) hE6 ?_; refine tc_env (d := 7) hE7 ?_
    clear hE3 hE8 hE6 hE7
    refine sr ?_; refine tv (o_lss rfl rfl) ?_; refine nq ?_; refine tc_seq ?_; refine tc_cond rfl (fun h => ?_) (fun h => ?_)
    · have hi : i < ls.length := by simp at h; omega
      obtain ⟨ai, ci, hvi, hri⟩ := hrows i hi
      have hri := rs_rd hri
      have hbi := hb _ (List.getElem_mem hi)
      have hli := hl _ (List.getElem_mem hi)
      have hs32 := crcs_lt (ls := ls.take i) fun l hl => hb l (List.mem_of_mem_take hl)
      refine tc_skip ?_; refine q_then_n ?_; refine tc_seq ?_; refine tc_block ?_; refine sr ?_; refine tv (o_ixP1 Tryz.underlying41 sz57 rfl rfl (by omega) (nn_rs hra (by omega))) ?_; refine tv (o_ldP p57 rfl hra hvi) ?_; refine tla ?_; refine nq ?_; refine tc_reg ?_; refine tlm ?_; refine tlm ?_; refine tl_c rfl (o_call bd254 rfl (More_c (hr := hri) (hb := hbi) (hl := hli) (hs := hs32))) ?_; rintro _ _ ⟨rfl, rfl⟩; refine tla ?_; refine tl_nil ?_; refine q_block_n (q_then_n ?_); refine tc_reg ?_; refine tv (by first | exact o_addI rfl rfl (by omega) | exact o_add rfl rfl) ?_; refine tlm ?_; refine nq ?_; exact ⟨_, by omega, i + 1, by omega, rfl, congrArg (fun z : Nat => Value.int .u32 (z : Int)) (crcs_take hi).symm, rfl, rfl, rfl, rfl⟩
    · try simp only [lv1, lv2, lv3, lv4, lv5, lv6, Bool.not_true, Bool.not_false] at h
      refine tc_exit ?_; refine q_then_e (q_then_e (q_block_x (q_then_n ?_))); refine sr ?_; refine tlm ?_; refine tla ?_; refine nq ?_; refine tc_ret ?_
      obtain rfl : i = m := by omega
      exact ⟨.int .u32 ((crcs ls : Nat) : Int), A, res1 rfl (congrArg (fun z : Nat => Value.int .u32 (z : Int)) (congrArg crcs (List.take_of_length_le (by omega)))), fun _ _ h => h, rfl, rfl⟩
theorem SumR_c {A : SP} {a : Option Addr} {m c : Nat} {xs : List Nat} (hr : Rs A a (bys xs) := by repeat (first | assumption | with_reducible exact rs_sl | with_reducible exact rs_pt0 | exact rs_none | apply Rs.left)) (hm : xs.length = m := by first | assumption | rfl) (hb : ∀ x ∈ xs, x < 256 := by assumption) (hl : m ≤ 1099511627776 := by omega) :
    Fn Tryz.prog 279 #[.slice a m c] (A) (fun r B => r = .int .u32 ((crc 0 xs : Nat) : Int) ∧ A = B) := by
  refine fn_enterW (args := [.slice a m c]) Tryz.func279 rfl Tryz.ntmps279 (by simp) ?_; refine sr ?_; refine tla ?_; refine nq ?_; refine sr ?_; refine tlm ?_; refine tl_c rfl (o_call bd284 rfl (MoreR_c (s := 0) (hr := hr))) ?_; rintro _ _ ⟨rfl, rfl⟩; refine tla ?_; refine nq ?_; refine tc_ret ?_; exact ⟨.int .u32 ((crc 0 xs : Nat) : Int), A, res1 rfl rfl, fun _ _ h => h, rfl, rfl⟩
theorem Little_c {A : SP} {v n : Nat} (hn : n ≤ 8 := by decide) :
    Fn Tryz.prog 235 #[.int .u64 (v : Nat), .int .i64 (n : Nat)] (A) (fun r B => ∃ a c, r = .slice a n c ∧ n ≤ c ∧ B = A * Sl 1 (.slice a n c) n (bys (le n v))) := by
  refine fn_enterW (args := [.int .u64 (v : Nat), .int .i64 (n : Nat)]) Tryz.func235 rfl Tryz.ntmps235 (by simp) ?_; refine sr ?_; refine tla ?_; refine nq ?_; refine sr ?_; refine tla ?_; refine nq ?_; refine tc_seq ?_; refine sr ?_; refine tla ?_; refine nq ?_; refine tc_block ?_; refine tc_pre (fun _ _ h => sl_nil (k := 1) h) ?_; refine tc_loop (fun kk ρ BB => ∃ (i : Nat) (a5 : Option Addr) (c5 : Nat), (i ≤ n) ∧ kk = n - i ∧ ρ 5 = .slice a5 i c5 ∧ ρ 6 = .int .i64 (i : Nat) ∧ ρ 0 = .int .u64 (v : Nat) ∧ ρ 1 = .int .i64 (n : Nat) ∧ BB = A * Sl 1 (.slice a5 i c5) i (bys (le i v))) (m := n - (0)) ?_ ?_
  · exact ⟨0, none, 0, by omega, rfl, rfl, rfl, rfl, rfl, rfl⟩
  · intro k ρ B hI
    obtain ⟨i, a5, c5, hp0, hkk1, hE5, hE6, hE0, hE1, rfl⟩ := hI
    refine tc_env (d := 5) hE5 ?_; refine tc_env (d := 6) hE6 ?_; refine tc_env (d := 0) hE0 ?_; refine tc_env (d := 1) hE1 ?_
    clear hE5 hE6 hE0 hE1
    refine tc_seq ?_; refine sr ?_; refine tlm ?_; refine tlm ?_; refine tv (o_lss rfl rfl) ?_; refine nq ?_; refine tc_cond rfl (fun h => ?_) (fun h => ?_)
    · try simp only [lv1, lv2, lv3, lv4, lv5, lv6, Bool.not_true, Bool.not_false] at h
      refine tc_skip ?_; refine q_then_n ?_; refine tc_seq ?_; refine tc_block ?_; refine tc_reg ?_; refine tlm ?_; refine tlm ?_; refine tlm ?_; refine tv (by first | exact o_mulI rfl rfl (by omega) | exact o_mul rfl rfl) ?_; refine tl_env (d := 15) (v := .int .i64 ((8 * i : Nat) : Int)) (rfl) ?_; refine tv (o_shrN (b := 8 * i) rfl rfl rfl (by show 8 * i ≤ 64; omega)) ?_; refine tv (by first | exact o_conv8 Tryz.underlying174 Tryz.underlying5 rfl | exact o_conv Tryz.underlying174 Tryz.underlying5 rfl) ?_; refine tl_env (d := 17) (v := .int .u8 ((v / 256 ^ i % 256 : Nat) : Int)) (congrArg (fun z : Nat => Value.int .u8 ((v / z % 256 : Nat) : Int)) (Nat.pow_mul 2 8 i)) ?_; refine tl_x rfl (o_buildSlice1 Tryz.underlying57 sz5 z5 (by conv => lhs; whnf) rfl) ?_; rintro _ _ ⟨b18, rfl, rfl⟩; refine tl_x rfl (o_apB Tryz.underlying57 Tryz.underlying57 sz5 by5 z5 rfl (by decide) (by decide) rfl rfl rfl (by repeat (first | with_reducible exact ct_here | apply ct_left)) rfl (by first | exact bys_all _ | exact ints_all _ | exact wds_all _ | exact bos_all _ | rfl) (by first | omega | (simp only [bys_length, ints_length, wds_length, bos_length, List.length_append, List.length_take, List.length_drop, List.length_singleton]; omega)) (by first | exact bys_sn _ _ | exact ints_sn _ _ | exact wds_sn _ _ | exact bos_sn _ _ | exact (bys_append _ _).symm | rfl)) ?_; rintro _ _ ⟨a19, c19, rfl, hc19, rfl⟩; refine tla ?_
      refine tl_nil ?_; refine q_block_n (q_then_n ?_); refine tc_reg ?_; refine tlm ?_; refine tv (by first | exact o_addI rfl rfl (by omega) | exact o_add rfl rfl) ?_; refine tla ?_; refine nq ?_; exact ⟨_, by omega, i + 1, _, _, by omega, rfl, rfl, rfl, rfl, rfl, by rw [le_snoc]⟩
    · try simp only [lv1, lv2, lv3, lv4, lv5, lv6, Bool.not_true, Bool.not_false] at h
      refine tc_exit ?_; refine q_then_e (q_then_e (q_block_x (q_then_n ?_))); refine tc_seq ?_; refine tc_have (fun _ _ h => ct_cap (by repeat (first | with_reducible exact ct_here | apply ct_left)) h) fun hc5 => ?_; refine tc_reg ?_; refine tlm ?_; refine tla ?_; refine nq ?_; refine tc_ret ?_
      obtain rfl : i = n := by omega
      exact ⟨_, _, res1 rfl rfl, fun _ _ h => h, a5, c5, rfl, hc5, rfl⟩
end Go.Vl

namespace Go.Vl
open Go Go.Proofs
def sbys (s : ByteArray) : List Nat := s.data.toList.map fun b => b.toNat
theorem sbys_len (s : ByteArray) : (sbys s).length = s.size := by unfold sbys; rw [List.length_map]; rfl
attribute [local irreducible] crk crL crc Sl pt ro
theorem Two_j {A : SP} {a1 a2 : Option Addr} {m1 m2 c1 c2 b : Nat} {xs ys : List Nat} {E : TypeId} (h1 : Rs A a1 (bys xs)) (h2 : Rs A a2 (bys ys)) (e1 : xs.length = m1) (e2 : ys.length = m2) (hl : m1 + m2 ≤ 17592186044416) :
    Fn Tryz.prog 234 #[.slice (some ⟨b, 0, none⟩) 2 2] (A * pt b (cl [.slice a1 m1 c1, .slice a2 m2 c2] E)) (fun r B => ∃ a c, r = .slice a (m1 + m2) c ∧ m1 + m2 ≤ c ∧ B = A * pt b (cl [.slice a1 m1 c1, .slice a2 m2 c2] E) * Sl 1 (.slice a (m1 + m2) c) (m1 + m2) (bys (xs ++ ys))) := by
  subst e1 e2
  refine fn_rs (xs := [.slice a1 xs.length c1, .slice a2 ys.length c2]) rs_pt0 fun hr => ?_; refine fn_rs h1.left fun h1 => fn_rs h2.left fun h2 => ?_
  have key := JoinN_f (A * pt b (cl [.slice a1 xs.length c1, .slice a2 ys.length c2] E)) (some ⟨b, 0, none⟩) 2 2 [xs, ys] ⟨_, rfl, hr, fun i hi => by
    match i, hi with
    | 0, _ => exact ⟨a1, c1, rfl, h1⟩
    | 1, _ => exact ⟨a2, c2, rfl, h2⟩⟩ (by simp; omega) (by simp) rfl
  have e : ([xs, ys] : List (List Nat)).flatten = xs ++ ys := by simp
  rw [e] at key
  have e3 : (xs ++ ys).length = xs.length + ys.length := by simp
  rw [e3] at key
  exact fn_sl key
theorem Two_c {A : SP} {a1 a2 : Option Addr} {m1 m2 c1 c2 : Nat} {xs ys : List Nat} (h1 : Rs A a1 (bys xs) := by repeat (first | assumption | with_reducible exact rs_sl | with_reducible exact rs_pt0 | exact rs_none | apply Rs.left)) (h2 : Rs A a2 (bys ys) := by repeat (first | assumption | with_reducible exact rs_sl | with_reducible exact rs_pt0 | exact rs_none | apply Rs.left)) (e1 : xs.length = m1 := by first | assumption | rfl) (e2 : ys.length = m2 := by first | assumption | rfl) (hl : m1 + m2 ≤ 17592186044416 := by omega) :
    Fn Tryz.prog 278 #[.slice a1 m1 c1, .slice a2 m2 c2] (A) (fun r B => ∃ a c, r = .slice a (m1 + m2) c ∧ m1 + m2 ≤ c ∧ B = A * Sl 1 (.slice a (m1 + m2) c) (m1 + m2) (bys (xs ++ ys))) := by
  refine fn_enterW (args := [.slice a1 m1 c1, .slice a2 m2 c2]) Tryz.func278 rfl Tryz.ntmps278 (by simp) ?_; refine sr ?_; refine tla ?_; refine nq ?_; refine sr ?_; refine tlm ?_; refine tlm ?_; refine tl_x rfl (o_buildSliceL (k := 1) (vs := [.slice a1 m1 c1, .slice a2 m2 c2]) (l := [.slice a1 m1 c1, .slice a2 m2 c2]) Tryz.underlying41 sz57 z57 rfl rfl (by decide) (by decide) (by intro v hv; simp at hv; rcases hv with rfl | rfl <;> rfl) rfl) ?_; rintro _ _ ⟨b7, rfl, rfl⟩; refine tl_c rfl (o_call bd234 rfl (Two_j h1 h2 e1 e2 hl)) ?_; rintro _ _ ⟨a8, c8, rfl, hc8, rfl⟩; refine tla ?_; refine nq ?_; refine tc_ret ?_; exact ⟨_, _, res1 rfl rfl, Dr.sat (by repeat (first | with_reducible exact dr_refl | apply dr_keep | apply dr_drop)), a8, c8, rfl, hc8, rfl⟩
end Go.Vl

namespace Go.Vl
open Go Go.Proofs
def planL (n : Int) : List Int := [n, 128, 32768, 32896, (n - 32896) / 256]
def planT (n : Int) : List Int × Int := if 36992 ≤ n ∧ n ≤ 4194304 ∧ n % 64 = 0 then (planL n, 0) else ([0, 0, 0, 0, 0], 80)
end Go.Vl

namespace Go.Vl
open Go Go.Proofs
def magicB : List Nat := [86, 69, 76, 76, 85, 77, 48, 49]
def mbs (ns : List Nat) : List Nat := magicB ++ ns.flatMap (le 8)
def sbB (ns : List Nat) : List Nat := mbs ns ++ le 8 (crc 0 (mbs ns))
end Go.Vl

namespace Go.Vl
open Go Go.Proofs
def lineT (q0 q1 q2 q3 q4 : Int) : List Nat × Int := if planT q0 = ([q0, q1, q2, q3, q4], 0) then (sbB [q0.toNat, 128, 32768, 32896, (q0.toNat - 32896) / 256, 0], 0) else ([], 100)
end Go.Vl

namespace Go.Vl
open Go Go.Proofs
def stE (s : DevS) : Int := if s.off = true then 5 else 0
theorem stE_rdy (s : DevS) (h : s.off = true) : rdy s.ls.length s.off 0 0 = 5 := by unfold rdy; rw [if_pos h]
theorem Load0_c {A R : SP} {C : SP → SP} {d : Nat} {s : DevS} (hc : Ct A (Dev d s) R C) : Fn Tryz.prog 110 #[.pointer (some ⟨d, 0, none⟩), .int .i64 0, .int .i64 0] A (fun r B => ∃ v : Value, r = .tuple #[v, .int .i64 (stE s)] ∧ A = B) := by
  by_cases h : s.off = true
  · have e : stE s = 5 := if_pos h
    have := LoadNo_c hc (p := 0) (m := 0) (by omega) (by omega) (by rw [stE_rdy s h]; decide)
    rw [stE_rdy s h] at this
    rw [e]
    exact this.mono fun _ _ ⟨h1, h2⟩ => ⟨_, h1, h2⟩
  · have e : stE s = 0 := if_neg h
    rw [e]
    intro g w hs
    refine (Load_c hc (p := 0) (m := 0) (by simpa using h) (by omega) g w hs).mono ?_; rintro e w' ⟨v, B, rfl, ⟨a, c, rfl, _, rfl⟩, hB⟩; exact ⟨_, _, rfl, ⟨_, rfl, rfl⟩, hB.left⟩
attribute [local irreducible] crk crL crc Sl pt ro mbs sbB planT Dev
theorem alive_c {A R : SP} {C : SP → SP} {d : Nat} {s : DevS} (hc : Ct A (Dev d s) R C := by repeat (first | with_reducible exact ct_here | apply ct_left)) :
    Fn Tryz.prog 208 #[.pointer (some ⟨d, 0, none⟩)] (A) (fun r B => r = .int .i64 (stE s) ∧ A = B) := by
  refine fn_enterW (args := [.pointer (some ⟨d, 0, none⟩)]) Tryz.func208 rfl Tryz.ntmps208 (by simp) ?_; refine sr ?_; refine tla ?_; refine nq ?_; refine sr ?_; refine tlm ?_; refine tl_c rfl (o_call bd110 rfl (Load0_c hc)) ?_; rintro _ _ ⟨v7, rfl, rfl⟩; refine tlm ?_; refine tv (o_extract rfl rfl) ?_; refine tv (o_extract rfl rfl) ?_; refine tla ?_; refine tla ?_; refine nq ?_; refine sr ?_; refine tlm ?_; refine tla ?_; refine nq ?_; refine tc_ret ?_; exact ⟨.int .i64 (stE s), A, res1 rfl rfl, fun _ _ h => h, rfl, rfl⟩
end Go.Vl

namespace Go.Vl.Rg
open Go
/-- Of what make the frame is: a function's, or a round's. -/
class Rm where
  r : Option Nat
def Fc (μ : Rm) : Fence := { Fence.wide with round := μ.r }
/-- The blocks of the deferred calls of loops that were begun: the frame keeps them behind its last slot. -/
def blk : Value → Nat
  | .int _ i => i.toNat
  | _ => 0
def mks : Value → List Nat
  | .tuple vs => vs.toList.map blk
  | _ => []
def mkv (rs : List Nat) : Value := .tuple (rs.map fun r : Nat => Value.int .i64 (r : Int)).toArray
theorem mks_mkv (rs : List Nat) : mks (mkv rs) = rs := by
  simp only [mkv, mks, List.map_map]
  induction rs with
  | nil => rfl
  | cons r rs ih => rw [List.map_cons, ih]; rfl
def mark (r : Nat) : Deferred := { target := .collected r, args := #[] }
def mkO : Obj := .deferred (some [])
structure Agr (n : Nat) (ρ : Env) (a : Act) : Prop where
  df : a.defers = (mks (ρ n)).map mark
  sz : a.tmps.size = n
  ev : ∀ t, t < n → a.tmps.getD t undef = ρ t
def put (n : Nat) (ρ : Env) : Option Tmp → Value → Env
  | some d, v => bif Nat.blt d n then upd ρ d v else ρ
  | none, _ => ρ
theorem Agr.plain {n : Nat} {ρ : Env} {a : Act} (h : Agr n ρ a) : Vl.Agr n ρ { a with defers := [] } := ⟨rfl, h.sz, h.ev⟩
theorem Agr.eval {n : Nat} {ρ : Env} {a : Act} (h : Agr n ρ a) : a.eval = Vl.ev n ρ := by
  rw [← h.plain.eval]; rfl
theorem Agr.put {n : Nat} {ρ : Env} {a : Act} (h : Agr n ρ a) (d : Option Tmp) (v : Value) : Agr n (Rg.put n ρ d v) (a.put d v) := by
  cases d with
  | none => exact h
  | some d =>
    simp only [Rg.put]
    cases hb : Nat.blt d n with
    | true =>
      have hlt := Nat.blt_eq.mp hb
      have := h.plain.put (some d) v
      refine ⟨?_, this.sz, this.ev⟩
      have hn : Nat.beq n d = false := by
        cases hb : Nat.beq n d with
        | false => rfl
        | true => have := Nat.eq_of_beq_eq_true hb; omega
      simp only [Act.put, cond_true, upd, hn, cond_false]
      exact h.df
    | false =>
      have hge : n ≤ d := by
        rcases Nat.lt_or_ge d n with hlt | hge
        · rw [Nat.blt_eq.mpr hlt] at hb; cases hb
        · exact hge
      refine ⟨h.df, by simp [Act.put, h.sz], fun t ht => ?_⟩
      simp only [Act.put, cond_false]
      rw [← h.ev t ht, Array.getD_eq_getD_getElem?, Array.getElem?_setIfInBounds, if_neg (by omega), Array.getD_eq_getD_getElem?]
def lift (g : Gh) (n : Nat) (Q : Post) : Exit → Act → World → Prop := fun e a w => okE e = true ∧ ∃ ρ A, Agr n ρ a ∧ sat g w A ∧ Q e ρ A
def TC [μ : Rm] (P : Program) (n : Nat) (c : Code) (Q : Post) (ρ : Env) (A : SP) : Prop :=
  ∀ g a w, Agr n ρ a → sat g w A → c.wpIn (Fc μ) 0 P (lift g n Q) a w
def TL [μ : Rm] (P : Program) (n : Nat) (ops : Array Oper) (Q : Post) (l : List Oper) (ρ : Env) (A : SP) : Prop :=
  ∀ g a w, Agr n ρ a → sat g w A → wpListIn (Fc μ) 0 P ops (lift g n Q) l a w
/-- A call of yield: what it hands back, and what holds of memory behind it. -/
def Yd (P : Program) (l : Nat) (args : Array Value) (A : SP) (Q : Value → SP → Prop) : Prop :=
  ∀ g w, sat g w A → ∃ f tmps assign body, (Instr.yield l args).run P w = .ok (.round l f tmps assign body) w ∧
    RoundIn Fence.wide 0 P l f tmps assign body w fun e w' => ∃ v B, e = .returned v ∧ Q v B ∧ sat g w' B
theorem Yd.mono {P : Program} {l : Nat} {args : Array Value} {A : SP} {Q Q' : Value → SP → Prop} (h : Yd P l args A Q) (k : ∀ v B, Q v B → Q' v B) : Yd P l args A Q' := fun g w hs =>
  let ⟨f, t, a, b, hy, hr⟩ := h g w hs
  ⟨f, t, a, b, hy, hr.mono fun _ _ ⟨v, B, e, q, s⟩ => ⟨v, B, e, k v B q, s⟩⟩
theorem Yd.pre {P : Program} {l : Nat} {args : Array Value} {A A' : SP} {Q : Value → SP → Prop} (h : Yd P l args A Q) (k : ∀ g w, sat g w A' → sat g w A) : Yd P l args A' Q := fun g w hs => h g w (k g w hs)
section
variable {μ : Rm} {P : Program} {n : Nat} {Q : Post} {ρ : Env} {A : SP}
theorem tc_imp {c : Code} {Q' : Post} (h : TC P n c Q ρ A) (k : ∀ e ρ A, Q e ρ A → Q' e ρ A) : TC P n c Q' ρ A :=
  fun g a w ha hs => wpIn_mono (h g a w ha hs) fun _ _ _ ⟨o, ρ, A, x, y, z⟩ => ⟨o, ρ, A, x, y, k _ _ _ z⟩
theorem tc_pre {c : Code} {A' : SP} (k : ∀ g w, sat g w A → sat g w A') (h : TC P n c Q ρ A') : TC P n c Q ρ A :=
  fun g a w ha hs => h g a w ha (k g w hs)
theorem tc_eq {c : Code} {A' : SP} (k : A = A') (h : TC P n c Q ρ A') : TC P n c Q ρ A := k ▸ h
theorem tc_env {c : Code} {d : Nat} {v : Value} (h : ρ d = v) (k : TC P n c Q (upd ρ d v) A) : TC P n c Q ρ A := by
  rw [← env_set h] at k; exact k
theorem tc_have {c : Code} {p : Prop} (k : ∀ g w, sat g w A → p) (h : p → TC P n c Q ρ A) : TC P n c Q ρ A :=
  fun g a w ha hs => h (k g w hs) g a w ha hs
theorem tc_seq {x y : Code} (h : TC P n x (thenQ (TC P n y Q) Q) ρ A) : TC P n (x.seq y) Q ρ A := fun g a w ha hs =>
  wpIn_seq (wpIn_mono (h g a w ha hs) fun e a' w' ⟨hok, ρ', A', ha', hs', hq⟩ => by
    cases e with
    | normal => exact hq g a' w' ha' hs'
    | _ => exact ⟨hok, ρ', A', ha', hs', hq⟩)
theorem tc_skip (h : Q .normal ρ A) : TC P n .skip Q ρ A := fun g a w ha hs => wpIn_skip ⟨rfl, ρ, A, ha, hs, h⟩
theorem tc_ret (h : Q .ret ρ A) : TC P n .ret Q ρ A := fun g a w ha hs => wpIn_ret ⟨rfl, ρ, A, ha, hs, h⟩
theorem tc_exit {id : Nat} (h : Q (.exit id) ρ A) : TC P n (.exit id) Q ρ A := fun g a w ha hs => wpIn_exit ⟨rfl, ρ, A, ha, hs, h⟩
theorem tc_block {id : Nat} {c : Code} (h : TC P n c (blockQ id Q) ρ A) : TC P n (.block id c) Q ρ A := fun g a w ha hs =>
  wpIn_block (wpIn_mono (h g a w ha hs) fun e a' w' ⟨hok, ρ', A', ha', hs', hq⟩ => by
    cases e with
    | exit k =>
      simp only [Exit.inBlock]
      by_cases hk : k = id
      · subst hk
        simp only [blockQ, Nat.beq_refl, cond_true] at hq
        rw [if_pos rfl]; exact ⟨rfl, ρ', A', ha', hs', hq⟩
      · have : Nat.beq k id = false := by
          cases hb : Nat.beq k id with
          | false => rfl
          | true => exact absurd (Nat.eq_of_beq_eq_true hb) hk
        simp only [blockQ, this, cond_false] at hq
        rw [if_neg hk]; exact ⟨rfl, ρ', A', ha', hs', hq⟩
    | _ => exact ⟨hok, ρ', A', ha', hs', hq⟩)
theorem tc_cond {c : Operand} {x y : Code} {t : Bool} (hc : ev n ρ c = .bool t) (h1 : t = true → TC P n x Q ρ A) (h2 : t = false → TC P n y Q ρ A) : TC P n (.cond c x y) Q ρ A := fun g a w ha hs => by
  refine wpIn_cond (t := t) (by rw [ha.eval]; exact hc) ?_
  cases t with
  | true => exact h1 rfl g a w ha hs
  | false => exact h2 rfl g a w ha hs
theorem tc_cond_t {c : Operand} {x y : Code} (hc : ev n ρ c = .bool true) (h : TC P n x Q ρ A) : TC P n (.cond c x y) Q ρ A := tc_cond hc (fun _ => h) (fun e => by cases e)
theorem tc_cut {c : Code} (M : Env → SP → Prop) (h : TC P n c (fun e ρ' A' => match e with | .normal => M ρ' A' | e => Q e ρ' A') ρ A) (k : ∀ ρ' A', M ρ' A' → Q .normal ρ' A') : TC P n c Q ρ A :=
  tc_imp h fun e ρ' A' hq => by
    cases e with
    | normal => exact k _ _ hq
    | _ => exact hq
theorem tc_loop {c : Code} (I : Nat → Env → SP → Prop) {m : Nat} (h0 : I m ρ A)
    (round : ∀ k ρ A, I k ρ A → TC P n c (thenQ (fun ρ' A' => ∃ k', k' < k ∧ I k' ρ' A') Q) ρ A) : TC P n (.loop c) Q ρ A := fun g a w ha hs b kk cs hro hb hr => by
  have key : ∀ k ρ A, I k ρ A → ∀ a w, Agr n ρ a → sat g w A → ∃ e a' w', lift g n Q e a' w' ∧ ArrivesIn (Machine.fenced P (Fc μ)) P (lone (b.atR a (.code c :: .inLoop c :: kk)) cs w) b kk cs e a' w' := by
    intro k
    induction k using Nat.strongRecOn with
    | _ k ih =>
      intro ρ A hI a w ha hs
      obtain ⟨e, a₁, w₁, ⟨hok, ρ₁, A₁, ha₁, hs₁, hq⟩, harr⟩ := round k ρ A hI g a w ha hs b (.inLoop c :: kk) cs hro hb hr
      cases e with
      | normal =>
        obtain ⟨k', hlt, hI'⟩ := hq
        obtain ⟨e₂, a₂, w₂, hq₂, harr₂⟩ := ih k' hlt ρ₁ A₁ hI' a₁ w₁ ha₁ hs₁
        exact ⟨e₂, a₂, w₂, hq₂, .of_steps (StepsIn.trans harr (.one (fenced_calm hb hr rfl) stepR_inLoop)) harr₂⟩
      | exit id => exact ⟨_, a₁, w₁, ⟨hok, ρ₁, A₁, ha₁, hs₁, hq⟩, .pass (x := .inLoop c) rfl (fun _ _ => .inl (by simp)) harr⟩
      | goto l => exact ⟨_, a₁, w₁, ⟨hok, ρ₁, A₁, ha₁, hs₁, hq⟩, .pass (x := .inLoop c) rfl (fun _ _ => .inl (by simp)) harr⟩
      | ret => exact ⟨_, a₁, w₁, ⟨hok, ρ₁, A₁, ha₁, hs₁, hq⟩, .pass (x := .inLoop c) rfl (fun _ _ => .inl (by simp)) harr⟩
      | panic ch => exact ⟨_, a₁, w₁, ⟨hok, ρ₁, A₁, ha₁, hs₁, hq⟩, .pass (x := .inLoop c) rfl (fun _ _ => .inl (by simp)) harr⟩
      | outgrown => exact ⟨_, a₁, w₁, ⟨hok, ρ₁, A₁, ha₁, hs₁, hq⟩, .pass (x := .inLoop c) rfl (fun _ _ => .inl (by simp)) harr⟩
  obtain ⟨e, a', w', hq, harr⟩ := key m ρ A h0 a w ha hs
  exact ⟨e, a', w', hq, .of_steps (.one (fenced_calm hb hr rfl) stepR_loop) harr⟩
/-! ### Operations -/
theorem want_eq {ops : Array Oper} {a : Act} {o : Oper} (ha : Agr n ρ a) : Region.wanted o (yielded ops a.tmps) = wantE n ops ρ o := by
  have := Vl.want_eq (ops := ops) (o := o) ha.plain
  exact this
theorem sem_eq {ro : Option Nat} {e : Operand → Value} {o : Oper} {w w' : World} {x : Next} (h : (execOp e o).run P w = .ok x w') (hd : ∀ d, x ≠ .defer d) : (Oper.semAt ro e o).run P w = .ok x w' := by
  cases ro with
  | none => exact h
  | some l =>
    by_cases hc : ∃ c, o.op = .defer c
    · exfalso
      obtain ⟨c, hc⟩ := hc
      unfold execOp at h
      rw [hc] at h
      simp only [] at h
      rw [Sem.run_bind] at h
      cases hr : (resolve e c o.type).run P w with
      | ok d w1 => rw [hr] at h; simp [Result.andThen, pure, Sem.run] at h; exact hd d h.1.symm
      | halt x w1 => rw [hr] at h; simp [Result.andThen] at h
    · rw [Oper.semAt_eq _ _ _ fun c e => hc ⟨c, e⟩]; exact h
section
variable {ops : Array Oper} {o : Oper} {rest : List Oper}
theorem tl_nil (h : Q .normal ρ A) : TL P n ops Q [] ρ A := fun g a w ha hs => wpListIn_nil ⟨rfl, ρ, A, ha, hs, h⟩
theorem tl_eq {A' : SP} {l : List Oper} (k : A = A') (h : TL P n ops Q l ρ A') : TL P n ops Q l ρ A := k ▸ h
theorem tl_pre {A' : SP} {l : List Oper} (k : ∀ g w, sat g w A → sat g w A') (h : TL P n ops Q l ρ A') : TL P n ops Q l ρ A := fun g a w ha hs => h g a w ha (k g w hs)
theorem tl_env {l : List Oper} {d : Nat} {v : Value} (h : ρ d = v) (k : TL P n ops Q l (upd ρ d v) A) : TL P n ops Q l ρ A := by
  rw [← env_set h] at k; exact k
theorem tl_have {l : List Oper} {p : Prop} (k : ∀ g w, sat g w A → p) (h : p → TL P n ops Q l ρ A) : TL P n ops Q l ρ A := fun g a w ha hs => h (k g w hs) g a w ha hs
theorem tl_bool {l : List Oper} {d : Nat} {b : Bool} (hv : ρ d = .bool b) (ht : b = true → TL P n ops Q l (upd ρ d (.bool true)) A) (hf : b = false → TL P n ops Q l (upd ρ d (.bool false)) A) : TL P n ops Q l ρ A := by
  cases b with
  | true => exact tl_env hv (ht rfl)
  | false => exact tl_env hv (hf rfl)
theorem tl_skip (hw : wantE n ops ρ o = false) (k : TL P n ops Q rest (put n ρ o.dst undef) A) : TL P n ops Q (o :: rest) ρ A := fun g a w ha hs => by
  unfold wpListIn
  rw [want_eq ha, hw]
  exact ⟨fun _ _ => trivial, k g _ w (ha.put _ _) hs⟩
theorem tl_v {v : Value} (hw : wantE n ops ρ o = true) (h : OpV P n ρ A o v) (k : TL P n ops Q rest (put n ρ o.dst v) A) : TL P n ops Q (o :: rest) ρ A := fun g a w ha hs => by
  unfold wpListIn
  rw [want_eq ha, hw, if_pos rfl]
  refine ⟨fun _ _ => trivial, ?_⟩
  rw [ha.eval, sem_eq (h g w hs) (by simp)]
  exact k g _ w (ha.put _ _) hs
theorem tlm {d : Nat} {ty : TypeId} {pos : String} {after : Array Edge} {gd : Option (Nat × Bool)} {x : Operand} {v : Value} (k : TL P n ops Q rest (put n ρ (some d) v) A) (h : ev n ρ x = v := by conv => lhs; whnf) (hw : wantE n ops ρ ⟨some d, .move x, ty, pos, after, gd⟩ = true := by rfl) : TL P n ops Q (⟨some d, .move x, ty, pos, after, gd⟩ :: rest) ρ A := tl_v hw (o_move h) k
theorem tla {d : Nat} {ty : TypeId} {pos : String} {after : Array Edge} {gd : Option (Nat × Bool)} {x : Operand} {v : Value} (k : TL P n ops Q rest (put n ρ (some d) v) A) (h : ev n ρ x = v := by conv => lhs; whnf) (hw : wantE n ops ρ ⟨some d, .assign x, ty, pos, after, gd⟩ = true := by rfl) : TL P n ops Q (⟨some d, .assign x, ty, pos, after, gd⟩ :: rest) ρ A := tl_v hw (o_assign h) k
theorem tl_x {R : Value → SP → Prop} (hw : wantE n ops ρ o = true) (h : OpX P n ρ A o R) (k : ∀ v B, R v B → TL P n ops Q rest (put n ρ o.dst v) B) : TL P n ops Q (o :: rest) ρ A := fun g a w ha hs => by
  unfold wpListIn
  rw [want_eq ha, hw, if_pos rfl]
  refine ⟨fun _ _ => trivial, ?_⟩
  obtain ⟨v, w', B, hr, hb, hR⟩ := h g w hs
  rw [ha.eval, sem_eq hr (by simp)]
  exact k v B hR g _ w' (ha.put _ _) hb
theorem tl_u {B : SP} (hw : wantE n ops ρ o = true) (h : OpU P n ρ A o B) (k : TL P n ops Q rest (put n ρ o.dst undef) B) : TL P n ops Q (o :: rest) ρ A := fun g a w ha hs => by
  unfold wpListIn
  rw [want_eq ha, hw, if_pos rfl]
  refine ⟨fun _ _ => trivial, ?_⟩
  obtain ⟨w', hr, hb⟩ := h g w hs
  rw [ha.eval, sem_eq hr (by simp)]
  exact k g _ w' (ha.put _ _) hb
theorem tl_c {R : Value → SP → Prop} (hw : wantE n ops ρ o = true) (h : OpC P n ρ A o R) (k : ∀ v B, R v B → TL P n ops Q rest (put n ρ o.dst v) B) : TL P n ops Q (o :: rest) ρ A := fun g a w ha hs => by
  unfold wpListIn
  rw [want_eq ha, hw, if_pos rfl]
  refine ⟨fun _ _ => trivial, ?_⟩
  obtain ⟨f, args, w', hr, hc⟩ := h g w hs
  rw [ha.eval, sem_eq hr (by simp)]
  refine ⟨fun h => (by cases h), ?_⟩
  have hc' : CallsIn Fence.wide (0 - 1) P f args w' fun e w'' => ∃ v B, e = .returned v ∧ R v B ∧ sat g w'' B := callsIn_wide.2 hc
  refine CallsIn.mono (show CallsIn (Fc μ) (0 - 1) P f args w' _ from hc') fun e w'' ⟨v, B, he, hR, hb⟩ => ?_
  subst he
  exact k v B hR g _ w'' (ha.put _ _) hb
/-- A call of yield. -/
theorem tl_y {R : Value → SP → Prop} {x : Operand} {l : Nat} {args : Array Operand} {tys : Array TypeId} {vs : List Value} {dst : Option Tmp} {ty : TypeId} {pos : String} {after : Array Edge} {gd : Option (Nat × Bool)}
    (hw : wantE n ops ρ ⟨dst, .call { callee := .value x, args := args, argTypes := tys }, ty, pos, after, gd⟩ = true) (hx : ev n ρ x = .func (.yield l) #[] #[]) (hv : args.toList.map (ev n ρ) = vs) (h : Yd P l vs.toArray A R)
    (k : ∀ v B, R v B → TL P n ops Q rest (put n ρ dst v) B) : TL P n ops Q (⟨dst, .call { callee := .value x, args := args, argTypes := tys }, ty, pos, after, gd⟩ :: rest) ρ A := fun g a w ha hs => by
  unfold wpListIn
  rw [want_eq ha, hw, if_pos rfl]
  refine ⟨fun _ _ => trivial, ?_⟩
  obtain ⟨f, tmps, assign, body, hy, hr⟩ := h g w hs
  have he : args.map (ev n ρ) = vs.toArray := Array.ext' (by rw [Array.toList_map, hv])
  have hex : (execOp (ev n ρ) ⟨dst, .call { callee := .value x, args := args, argTypes := tys }, ty, pos, after, gd⟩).run P w = .ok (.round l f tmps assign body) w := by
    simp only [execOp, resolve, hx, Deferred.ofValue, he]
    rw [run_bind (w' := w) (a := ⟨.fn (.yield l) #[], #[] ++ vs.toArray⟩) (by rfl)]
    simpa [invoke] using hy
  rw [ha.eval, sem_eq hex (by simp)]
  refine ⟨fun h => (by cases h), ?_⟩; refine RoundIn.mono (show RoundIn (Fc μ) (0 - 1) P l f tmps assign body w _ from hr) fun e w'' ⟨v, B, he, hR, hb⟩ => ?_
  subst he
  exact k v B hR g _ w'' (ha.put _ _) hb
theorem tc_reg {id : Nat} {l : List Oper} (h : TL P n l.toArray Q l ρ A) : TC P n (.region id l.toArray false) Q ρ A := fun g a w ha hs => wpIn_region_lit (h g a w ha hs)
end
end
/-! ## Functions -/
/-- The marks' blocks. -/
def Mk : List Nat → SP
  | [] => emp
  | r :: rs => Mk rs * pt r mkO
def retW (P : Program) (n : Nat) (fn : Func) (Q : Value → SP → Prop) : Post
  | .ret, ρ, A | .normal, ρ, A => ∃ rs B, mks (ρ n) = rs ∧ (∀ g w, sat g w A → sat g w (B * Mk rs)) ∧ ∃ v A', Res P n fn ρ B v ∧ (∀ g w, sat g w B → sat g w A') ∧ Q v A'
  | _, _, _ => False
theorem leaves_mk {P : Program} {fn : Func} {tmps : Array Value} {R : Ending → World → Prop} {g : Gh} {B : SP} : ∀ (rs : List Nat) (w : World), sat g w (B * Mk rs) →
    (∀ w, sat g w B → ∃ v, (results fn tmps).run P w = .ok v w ∧ R (.returned v) w) → LeavesInM Fence.wide 0 P fn tmps R (rs.map mark) .returning w
  | [], w, hs, h => h w hs.left
  | r :: rs, w, hs, h => by
    have hs' : sat g w (B * Mk rs * pt r mkO) := by rw [star_assoc]; exact hs
    have hr : w.heap[r]? = some mkO := has_here g w hs'
    refine ⟨by simp, .inl ⟨r, _, rfl, run_takeDeferred hr, leaves_mk rs _ ?_ h⟩⟩
    have hu : Upd (B * Mk rs * pt r mkO) r mkO (.deferred none) (B * Mk rs * pt r (.deferred none)) := upd_here
    have := hu.sat hs' (w' := w.putObj r (.deferred none)) (fun k => by
      by_cases hk : k = r
      · subst hk; rw [if_pos rfl]; exact World.putObj_heap_same (Array.getElem?_eq_some_iff.1 hr).1
      · rw [if_neg hk]; exact World.putObj_heap_other hk) rfl rfl rfl
    exact this.left
instance plainM : Rm := ⟨none⟩
theorem fn_enterW {P : Program} {f : FuncId} {fn : Func} {c : Code} {args : List Value} {A : SP} {Q : Value → SP → Prop} {n : Nat} (hf : P.funcs[f]? = some fn) (hb : fn.body = some c)
    (hn : fn.ntmps = n) (hle : args.length ≤ n) (h : @TC ⟨none⟩ P n c (retW P n fn Q) (argEnv und 0 args) A) : Fn P f args.toArray A Q := fun g w hs => by
  refine callsIn_wide.1 (callsIn_of_wp_marks (n := 0) hf hb trivial (wpIn_mono (h g _ w ?_ hs) ?_))
  · have hsz : (args.toArray ++ Array.replicate (fn.ntmps - args.toArray.size) undef).size = n := by simp; omega
    have key : ∀ (l : List Value) (ρ : Env) (k t : Nat), argEnv ρ k l t = if k ≤ t ∧ t < k + l.length then l.getD (t - k) undef else ρ t := by
      intro l
      induction l with
      | nil => intro ρ k t; simp only [argEnv, List.length_nil]; rw [if_neg (by omega)]
      | cons v l ih =>
        intro ρ k t
        simp only [argEnv, ih, List.length_cons]
        by_cases h1 : k + 1 ≤ t ∧ t < k + 1 + l.length
        · rw [if_pos h1, if_pos (by omega)]
          have : t - k = (t - (k + 1)) + 1 := by omega
          rw [this]; simp
        · rw [if_neg h1]
          by_cases h2 : t = k
          · subst h2
            rw [if_pos (by omega)]
            simp [upd]
          · rw [if_neg (by omega)]
            have : Nat.beq t k = false := by
              cases hb : Nat.beq t k with
              | false => rfl
              | true => exact absurd (Nat.eq_of_beq_eq_true hb) h2
            simp [upd, this]
    refine ⟨?_, hsz, fun t ht => ?_⟩
    · rw [key, if_neg (by omega)]; rfl
    · rw [key]
      rw [Array.getD_eq_getD_getElem?, Array.getElem?_append]
      by_cases h1 : t < args.length
      · rw [if_pos (by simpa using h1), if_pos (by omega)]
        simp
      · rw [if_neg (by simpa using h1), if_neg (by omega)]
        simp only [List.size_toArray] at *
        rw [Array.getElem?_replicate]
        split <;> simp [und]
  · rintro e a' w' ⟨_, ρ', A', ha', hs', hq⟩
    have fin : ∀ a' w', Agr n ρ' a' → sat g w' A' → retW P n fn Q .ret ρ' A' → LeavesInM Fence.wide 0 P fn a'.tmps (fun e w' => ∃ v B, e = .returned v ∧ Q v B ∧ sat g w' B) a'.defers .returning w' := by
      intro a' w' ha' hs' hq
      obtain ⟨rs, B, hm, hB, v, A2, hr, hi, hQ⟩ := hq
      rw [ha'.df, hm]
      exact leaves_mk rs w' (hB g w' hs') fun w hw => ⟨v, by have := hr g _ w ha'.plain hw; exact this, v, A2, rfl, hQ, hi g w hw⟩
    cases e with
    | normal => exact fin a' w' ha' hs' hq
    | ret => exact fin a' w' ha' hs' hq
    | _ => exact hq.elim
/-! ## Rounds -/
/-- A loop's record: its state, the jump that waits, the frame that it copies. -/
def Lp (l : Nat) (st : LoopState) (pe : Option Code) (n : Nat) (ρ : Env) (ps : Array Tmp) (assign body : Code) : SP :=
  ex fun r : Loop => fun h => (r.state = st ∧ r.pending = pe ∧ r.params = ps ∧ r.assign = assign ∧ r.body = body ∧ Vl.Agr n ρ { tmps := r.tmps, defers := [] }) ∧ pt l (.loop r) h
theorem lp_iff {l n : Nat} {st : LoopState} {pe : Option Code} {ρ : Env} {ps : Array Tmp} {assign body : Code} {R : SP} {g : Gh} {w : World} : sat g w (R * Lp l st pe n ρ ps assign body) ↔
    ∃ r : Loop, (r.state = st ∧ r.pending = pe ∧ r.params = ps ∧ r.assign = assign ∧ r.body = body ∧ Vl.Agr n ρ { tmps := r.tmps, defers := [] }) ∧ sat g w (R * pt l (.loop r)) := by
  constructor
  · intro hs
    obtain ⟨_, ⟨x, y, hd, rfl, ha, r, hr, hb⟩, hx⟩ := hs.hp
    exact ⟨r, hr, hs.os, hs.tape, hs.out, _, ⟨x, y, hd, rfl, ha, hb⟩, hx⟩
  · rintro ⟨r, hr, hs⟩
    exact hs.mono fun h ⟨x, y, hd, e, ha, hb⟩ => ⟨x, y, hd, e, ha, r, hr, hb⟩
theorem sat_putObj {R : SP} {l : Nat} {o o' : Obj} {g : Gh} {w : World} (hs : sat g w (R * pt l o)) : sat g (w.putObj l o') (R * pt l o') := by
  have hr : w.heap[l]? = some o := has_here g w hs
  exact (upd_here (R := R) (b := l) (o := o) (o' := o')).sat hs (w' := w.putObj l o') (fun k => by
    by_cases hk : k = l
    · subst hk; rw [if_pos rfl]; exact World.putObj_heap_same (Array.getElem?_eq_some_iff.1 hr).1
    · rw [if_neg hk]; exact World.putObj_heap_other hk) rfl rfl rfl
/-- The frame of a round: yield's arguments in the parameters. -/
def putL (n : Nat) : Env → List Tmp → List Value → Env
  | ρ, t :: ts, v :: vs => putL n (put n ρ (some t) v) ts vs
  | ρ, _, _ => ρ
theorem putL_agr {n : Nat} : ∀ (ts : List Tmp) (vs : List Value) (ρ : Env) (a : Act), Agr n ρ a → Agr n (putL n ρ ts vs) { a with tmps := (ts.zip vs).foldl (fun t (p : Tmp × Value) => t.setIfInBounds p.1 p.2) a.tmps }
  | [], _, _, a, h => by cases a; exact h
  | _ :: _, [], _, a, h => by cases a; exact h
  | t :: ts, v :: vs, ρ, a, h => putL_agr ts vs _ _ (h.put (some t) v)
/-- How a round may be left: by what its body says at its end. -/
def rndQ (l n : Nat) (ρ0 : Env) (ps : Array Tmp) (assign body : Code) (Q : Value → Option Code → SP → Prop) : Post
  | .normal, _, A => ∃ B, (∀ g w, sat g w A → sat g w (B * Lp l .busy none n ρ0 ps assign body)) ∧ Q (.bool true) none B
  | .ret, _, A => ∃ B, (∀ g w, sat g w A → sat g w (B * Lp l .busy none n ρ0 ps assign body)) ∧ Q (.bool false) (some .ret) B
  | .exit id, _, A => ∃ B, (∀ g w, sat g w A → sat g w (B * Lp l .busy none n ρ0 ps assign body)) ∧ Q (.bool false) (some (.exit id)) B
  | _, _, _ => False
def stOf : Option Code → LoopState
  | none => .ready
  | some _ => .done
/-- **A round, out of its body's walk.** -/
theorem yd_body {P : Program} {l n : Nat} {ρ : Env} {ps : Array Tmp} {assign body : Code} {A : SP} {vs : List Value} {Q : Value → Option Code → SP → Prop} (hn : vs.length = ps.size) (hm : mks (ρ n) = [])
    (h : @TC ⟨some l⟩ P n assign (fun e ρ' A' => match e with
      | .normal => ∃ B, (∀ g w, sat g w A' → sat g w (B * Lp l .ready none n ρ ps assign body)) ∧ @TC ⟨some l⟩ P n body (rndQ l n ρ ps assign body Q) ρ' (B * Lp l .busy none n ρ ps assign body)
      | _ => False) (putL n ρ ps.toList vs) (A * Lp l .ready none n ρ ps assign body)) :
    Yd P l vs.toArray (A * Lp l .ready none n ρ ps assign body) (fun v B => ∃ C j, Q v j C ∧ B = C * Lp l (stOf j) j n ρ ps assign body) := fun g w hs => by
  obtain ⟨r, ⟨h1, h2, h3, h4, h5, h6⟩, hs'⟩ := lp_iff.1 hs
  have hl : w.heap[l]? = some (.loop r) := has_here g w hs'
  refine ⟨r.fn, (r.params.zip vs.toArray).foldl (fun tmps (x : Tmp × Value) => tmps.setIfInBounds x.1 x.2) r.tmps, assign, body, ?_, ?_⟩
  · have := run_yield (P := P) (args := vs.toArray) hl (by simp [h3, hn])
    rw [h4, h5] at this; exact this
  have ha0 : Agr n ρ { tmps := r.tmps, defers := [] } := ⟨by rw [hm]; rfl, h6.sz, h6.ev⟩
  have ha := putL_agr ps.toList vs ρ _ ha0
  have e0 : ((r.params.zip vs.toArray).foldl (fun tmps (x : Tmp × Value) => tmps.setIfInBounds x.1 x.2) r.tmps) = ((ps.toList.zip vs).foldl (fun t (p : Tmp × Value) => t.setIfInBounds p.1 p.2) r.tmps) := by
    rw [h3, ← Array.foldl_toList, Array.toList_zip]
  refine roundIn_of_wpIn (F := Fence.wide) trivial ?_
  show assign.wpIn (Fc ⟨some l⟩) 0 P _ { tmps := (r.params.zip vs.toArray).foldl (fun tmps (x : Tmp × Value) => tmps.setIfInBounds x.1 x.2) r.tmps, defers := [] } w
  rw [e0]
  refine wpIn_mono (h g _ w ha hs) ?_; rintro e a1 w1 ⟨_, ρ1, A1, ha1, hs1, hq⟩
  cases e with
  | normal =>
    obtain ⟨B, hB, hbody⟩ := hq
    have hs1 := hB g w1 hs1
    obtain ⟨r1, ⟨g1, g2, g3, g4, g5, g6⟩, hs1'⟩ := lp_iff.1 hs1
    have hl1 : w1.heap[l]? = some (.loop r1) := has_here g w1 hs1'
    refine ⟨_, run_beginRound hl1 g1, ?_⟩
    have hs2 := sat_putObj (o' := .loop { r1 with state := .busy }) hs1'
    have hs3 : sat g (w1.putObj l (.loop { r1 with state := .busy })) (B * Lp l .busy none n ρ ps assign body) := lp_iff.2 ⟨{ r1 with state := .busy }, ⟨rfl, g2, g3, g4, g5, g6⟩, hs2⟩
    refine wpIn_mono (show body.wpIn (Fc ⟨some l⟩) 0 P _ a1 _ from hbody g a1 _ ha1 hs3) ?_; rintro e a3 w3 ⟨_, ρ3, A3, ha3, hs4, hq3⟩
    have fin : ∀ (jump : Option Code), (∃ C, (∀ g w, sat g w A3 → sat g w (C * Lp l .busy none n ρ ps assign body)) ∧ Q (.bool jump.isNone) jump C) →
        ∃ v w', (Instr.endRound l jump).run P w3 = .ok v w' ∧ ∃ v' B', (Ending.returned v : Ending) = .returned v' ∧ (∃ C j, Q v' j C ∧ B' = C * Lp l (stOf j) j n ρ ps assign body) ∧ sat g w' B' := by
      rintro jump ⟨C, hC, hQ⟩
      have hs4 := hC g w3 hs4
      obtain ⟨r3, ⟨k1, k2, k3, k4, k5, k6⟩, hs5⟩ := lp_iff.1 hs4
      have hl3 : w3.heap[l]? = some (.loop r3) := has_here g w3 hs5
      refine ⟨_, _, run_endRound jump hl3, _, _, rfl, ⟨C, jump, hQ, rfl⟩, ?_⟩; refine lp_iff.2 ⟨{ r3 with state := if jump.isNone then .ready else .done, pending := jump }, ⟨?_, rfl, k3, k4, k5, k6⟩, sat_putObj hs5⟩
      cases jump <;> rfl
    cases e with
    | normal => exact fin none hq3
    | ret => exact fin (some .ret) hq3
    | exit id => exact fin (some (.exit id)) hq3
    | _ => exact hq3.elim
  | _ => exact hq.elim
/-! ## The statement -/
/-- What is asked when the function that was ranged over has returned. -/
def jmpQ (Q : Post) (ρ : Env) (A : SP) : Option Code → Prop
  | none => Q .normal ρ A
  | some .ret => Q .ret ρ A
  | some (.exit id) => Q (.exit id) ρ A
  | _ => False
/-- **for .. := range g { .. }, in a function's own frame.** -/
theorem tc_range {P : Program} {n : Nat} {Q : Post} {ρ : Env} {A : SP} {x : Operand} {ps : Array Tmp} {assign body : Code} {gf : FuncId} {fs cs : List Value} (hx : ev n ρ x = .func (.func gf) fs.toArray cs.toArray) (hb : bodyB P gf = true)
    (h : ∀ r l : Nat, Fn P gf (fs ++ [Value.func (.yield l) #[] #[]] ++ cs).toArray (A * pt r mkO * Lp l .ready none n ρ ps assign body) fun _ B =>
      ∃ st j C, st ≠ .busy ∧ B = C * pt r mkO * Lp l st j n ρ ps assign body ∧ jmpQ Q (upd ρ n (mkv (r :: mks (ρ n)))) (C * pt r mkO) j) : @TC ⟨none⟩ P n (.rangeFunc x ps assign body) Q ρ A := fun g a w ha hs => by
  refine wpIn_rangeFunc fun fn _ => ?_
  obtain ⟨rec, hrec⟩ : ∃ rec : Loop, rec = { state := .ready, pending := none, fn, tmps := a.tmps, params := ps, assign, body, defers := w.heap.size } := ⟨_, rfl⟩
  obtain ⟨W1, hW1⟩ : ∃ W1, (w.alloc (.deferred (some []))).alloc (.loop rec) = W1 := ⟨_, rfl⟩
  have hs1 : sat g W1 (A * pt w.heap.size mkO * Lp (w.heap.size + 1) .ready none n ρ ps assign body) := by
    rw [← hW1]
    have hsz : (w.alloc (.deferred (some []))).heap.size = w.heap.size + 1 := by simp
    have := (hs.alloc (.deferred (some []))).alloc (.loop rec)
    rw [hsz] at this
    exact lp_iff.2 ⟨rec, by rw [hrec]; exact ⟨rfl, rfl, rfl, rfl, rfl, rfl, ha.sz, ha.ev⟩, this⟩
  refine ⟨w.heap.size + 1, [mark w.heap.size], W1, { target := .fn (.func gf) cs.toArray, args := fs.toArray ++ #[.func (.yield (w.heap.size + 1)) #[] #[]] }, W1, gf,
    (fs ++ [Value.func (.yield (w.heap.size + 1)) #[] #[]] ++ cs).toArray, W1, ?_, ?_, fun _ _ => trivial, ?_, fun h => (by cases h), ?_⟩
  · rw [← hW1, hrec]; exact run_enterLoop_outer _ _ _ _ _
  · simp only [resolve, ha.eval, hx]
    simp [Deferred.ofValue, ev, pure, bind, Sem.bind]
  · simp only [invoke]
    rw [run_callFunc hb]; simp
  · have hc := h w.heap.size (w.heap.size + 1) g W1 hs1
    refine CallsIn.mono (show CallsIn (Fc ⟨none⟩) (0 - 1) P gf _ W1 _ from callsIn_wide.2 hc) ?_; rintro e w3 ⟨v, B, rfl, ⟨st, j, C, hst, rfl, hj⟩, hs3⟩
    obtain ⟨r3, ⟨k1, k2, k3, k4, k5, k6⟩, hs5⟩ := lp_iff.1 hs3
    have hl3 : w3.heap[w.heap.size + 1]? = some (.loop r3) := has_here g w3 hs5
    refine ⟨_, _, run_endLoop hl3 (by rw [k1]; exact hst), ?_⟩
    have hs6 := (sat_putObj (o' := .loop { r3 with state := .exhausted }) hs5).left
    have ha6 : Agr n (upd ρ n (mkv (w.heap.size :: mks (ρ n)))) { a with defers := [mark w.heap.size] ++ a.defers } := by
      refine ⟨?_, ha.sz, fun t ht => ?_⟩
      · show [mark w.heap.size] ++ a.defers = _
        have : upd ρ n (mkv (w.heap.size :: mks (ρ n))) n = mkv (w.heap.size :: mks (ρ n)) := by simp [upd]
        rw [this, mks_mkv, ha.df]; rfl
      · have : Nat.beq t n = false := by
          cases hb : Nat.beq t n with
          | false => rfl
          | true => have := Nat.eq_of_beq_eq_true hb; omega
        simp only [upd, this, cond_false]; exact ha.ev t ht
    rw [k2] at hs6 ⊢
    cases j with
    | none => exact ⟨rfl, _, _, ha6, hs6, hj⟩
    | some c =>
      cases c with
      | ret => exact wpIn_ret ⟨rfl, _, _, ha6, hs6, hj⟩
      | exit id => exact wpIn_exit ⟨rfl, _, _, ha6, hs6, hj⟩
      | _ => exact hj.elim
/-! ## Iterators -/
/-- What an iterator promises: it calls yield with val 0, val 1, .. up to N of them, till a round says no. K: what it holds of memory itself; a round leaves alone whatever else there is. -/
def It (P : Program) (gf : FuncId) (fs cs : List Value) (K : SP) (N : Nat) (val : Nat → List Value) : Prop :=
  ∀ (l : Nat) (J : Nat → SP → Prop) (X : SP → Prop) (S0 : SP), J 0 S0 →
    (∀ F i S, i < N → J i S → Yd P l (val i).toArray (F * S) fun v B => ∃ (b : Bool) (S' : SP), v = .bool b ∧ (b = true → J (i + 1) S') ∧ (b = false → X S') ∧ B = F * S') →
    Fn P gf (fs ++ [Value.func (.yield l) #[] #[]] ++ cs).toArray (S0 * K) fun r B => r = .tuple #[] ∧ ((∃ S, J N S ∧ B = S * K) ∨ ∃ S, X S ∧ B = S * K)
section
variable (l n : Nat) (ρ0 : Env) (ps : Array Tmp) (assign body : Code) (F : SP)
def rndI (I1 : SP → Prop) (X : Code → SP → Prop) : Post
  | .normal, _, A => ∃ S, (∀ g w, sat g w A → sat g w (F * S)) ∧ I1 S
  | .ret, _, A => ∃ S, (∀ g w, sat g w A → sat g w (F * S)) ∧ X .ret S
  | .exit id, _, A => ∃ S, (∀ g w, sat g w A → sat g w (F * S)) ∧ X (.exit id) S
  | _, _, _ => False
def asgI (P : Program) (I1 : SP → Prop) (X : Code → SP → Prop) : Post
  | .normal, ρ, A => ∃ S, (∀ g w, sat g w A → sat g w (F * S)) ∧ ∀ F, @TC ⟨some l⟩ P n body (rndI F I1 X) ρ (F * S)
  | _, _, _ => False
end
/-- **for .. := range g { .. }, over an iterator that has its contract.** -/
theorem tc_rangeI {P : Program} {n N : Nat} {Q : Post} {ρ : Env} {A A0 K : SP} {x : Operand} {ps : Array Tmp} {assign body : Code} {gf : FuncId} {fs cs : List Value} {val : Nat → List Value} (I : Nat → SP → Prop) (X : Code → SP → Prop)
    (hx : ev n ρ x = .func (.func gf) fs.toArray cs.toArray) (hb : bodyB P gf = true) (hit : It P gf fs cs K N val) (hps : ∀ i, (val i).length = ps.size) (hm : mks (ρ n) = []) (hA : ∀ g w, sat g w A → sat g w (A0 * K)) (h0 : I 0 A0)
    (round : ∀ l F i S, i < N → I i S → @TC ⟨some l⟩ P n assign (asgI l n body F P (I (i + 1)) X) (putL n ρ ps.toList (val i)) (F * S))
    (done : ∀ r S, I N S → Q .normal (upd ρ n (mkv [r])) (S * K * pt r mkO)) (jump : ∀ r j S, X j S → jmpQ Q (upd ρ n (mkv [r])) (S * K * pt r mkO) (some j)) : @TC ⟨none⟩ P n (.rangeFunc x ps assign body) Q ρ A := by
  refine tc_pre hA (tc_range hx hb fun r l => ?_)
  rw [hm]
  have hY := hit l (fun i S => ∃ S1, S = S1 * pt r mkO * Lp l .ready none n ρ ps assign body ∧ I i S1) (fun S => ∃ j S1, S = S1 * pt r mkO * Lp l .done (some j) n ρ ps assign body ∧ X j S1) _ ⟨A0, rfl, h0⟩ ?_
  · refine Fn.mono (hY.pre fun _ _ h => (show A0 * K * pt r mkO * Lp l .ready none n ρ ps assign body = A0 * pt r mkO * Lp l .ready none n ρ ps assign body * K by ac_rfl) ▸ h) ?_
    rintro v B ⟨_, ⟨_, ⟨S1, rfl, hI⟩, rfl⟩ | ⟨_, ⟨j, S1, rfl, hX⟩, rfl⟩⟩
    · exact ⟨.ready, none, S1 * K, by simp, by ac_rfl, done r S1 hI⟩
    · exact ⟨.done, some j, S1 * K, by simp, by ac_rfl, jump r j S1 hX⟩
  · rintro F i _ hi ⟨S1, rfl, hI⟩
    have e1 : ∀ (S L : SP), F * S * pt r mkO * L = F * pt r mkO * L * S := fun S L => by ac_rfl
    have hb := yd_body (P := P) (l := l) (n := n) (ρ := ρ) (ps := ps) (assign := assign) (body := body) (A := F * S1 * pt r mkO) (vs := val i)
      (Q := fun v j C => ∃ S2, C = F * S2 * pt r mkO ∧ ((j = none ∧ v = .bool true ∧ I (i + 1) S2) ∨ ∃ c, j = some c ∧ v = .bool false ∧ X c S2)) (hps i) hm
      (by
        rw [e1]
        refine tc_imp (round l (F * pt r mkO * Lp l .ready none n ρ ps assign body) i S1 hi hI) fun e ρ' A' hq => ?_
        cases e with
        | normal =>
          obtain ⟨S, hS, hbody⟩ := hq
          refine ⟨F * S * pt r mkO, fun g w h => by rw [e1]; exact hS g w h, ?_⟩
          rw [e1]
          refine tc_imp (hbody (F * pt r mkO * Lp l .busy none n ρ ps assign body)) fun e ρ2 A2 hq => ?_
          cases e with
          | normal => obtain ⟨S2, h2, hI2⟩ := hq; exact ⟨F * S2 * pt r mkO, fun g w h => by rw [e1]; exact h2 g w h, S2, rfl, .inl ⟨rfl, rfl, hI2⟩⟩
          | ret => obtain ⟨S2, h2, hI2⟩ := hq; exact ⟨F * S2 * pt r mkO, fun g w h => by rw [e1]; exact h2 g w h, S2, rfl, .inr ⟨_, rfl, rfl, hI2⟩⟩
          | exit id => obtain ⟨S2, h2, hI2⟩ := hq; exact ⟨F * S2 * pt r mkO, fun g w h => by rw [e1]; exact h2 g w h, S2, rfl, .inr ⟨_, rfl, rfl, hI2⟩⟩
          | _ => exact hq.elim
        | _ => exact hq.elim)
    refine (hb.pre fun _ _ h => (show F * (S1 * pt r mkO * Lp l .ready none n ρ ps assign body) = F * S1 * pt r mkO * Lp l .ready none n ρ ps assign body by ac_rfl) ▸ h).mono ?_; rintro v B ⟨C, j, ⟨S2, rfl, ⟨rfl, rfl, hI2⟩ | ⟨c, rfl, rfl, hX⟩⟩, rfl⟩
    · exact ⟨true, _, rfl, fun _ => ⟨S2, rfl, hI2⟩, fun e => (by cases e), by show _ = F * (S2 * pt r mkO * Lp l (stOf none) none n ρ ps assign body); ac_rfl⟩
    · exact ⟨false, _, rfl, fun e => (by cases e), fun _ => ⟨c, S2, rfl, hX⟩, by show _ = F * (S2 * pt r mkO * Lp l (stOf (some c)) (some c) n ρ ps assign body); ac_rfl⟩
/-- What a round of the caller's does, in the iterator's own order of things. -/
theorem yd_b {P : Program} {l : Nat} {args : Array Value} {J X : SP → Prop} {F S A' : SP} {G : SP → SP} (h : Yd P l args (F * S) fun v B => ∃ (b : Bool) (S' : SP), v = .bool b ∧ (b = true → J S') ∧ (b = false → X S') ∧ B = F * S') (hA : A' = F * S) (hk : ∀ S : SP, F * S = G S) :
    Yd P l args A' fun v B => ∃ (b : Bool) (S' : SP), v = .bool b ∧ (b = true → J S') ∧ (b = false → X S') ∧ B = G S' := by
  subst hA
  refine h.mono fun v B ⟨b, S', e1, e2, e3, e4⟩ => ⟨b, S', e1, e2, e3, ?_⟩
  rw [e4, hk]
theorem jmp_r {Q : Post} {ρ : Env} {A : SP} (h : Q .ret ρ A) : jmpQ Q ρ A (some .ret) := h
theorem mk1 {B : SP} {r : Nat} {g : Gh} {w : World} (h : sat g w (B * pt r mkO)) : sat g w (B * Mk [r]) := by
  show sat g w (B * (emp * pt r mkO)); rw [emp_star]; exact h
theorem mk0 {B : SP} {g : Gh} {w : World} (h : sat g w B) : sat g w (B * Mk []) := by
  show sat g w (B * emp); rw [star_emp]; exact h
end Go.Vl.Rg

namespace Go.Vl
open Go Go.Proofs
theorem ct_wf2 {A R : SP} {C : SP → SP} {d : Nat} {s : DevS} (hc : Ct A (Dev d s) R C) {g : Gh} {w : World} (hs : sat g w A) : WfD s := by
  obtain ⟨rfl, _⟩ := hc; exact (dev_iff.1 hs).1
/-- Lines are flushed, one behind the other; then the fence. -/
def flF : Nat → Nat → DevS → Int × DevS
  | 0, _, s => fe s
  | k + 1, q, s => if (fl1 ((q * 64 : Nat) : Int) s).1 ≠ 0 then fl1 ((q * 64 : Nat) : Int) s else flF k (q + 1) (fl1 ((q * 64 : Nat) : Int) s).2
/-- A range is made to last. -/
def lastS (p m : Nat) (s : DevS) : Int × DevS := flF ((p + m - 1) / 64 - p / 64 + 1) (p / 64) s
attribute [local irreducible] Sl pt ro Dev imgS
namespace Rg
end Rg
end Go.Vl

namespace Go.Vl
open Go Go.Proofs
def insB (n : Nat) (p m : Int) : Bool := decide (0 ≤ p ∧ 0 ≤ m ∧ p ≤ (n : Int) * 64 ∧ m ≤ (n : Int) * 64 - p)
theorem stE_off {s : DevS} (h : stE s ≠ 0) : s.off = true := by
  unfold stE at h; by_cases e : s.off = true
  · exact e
  · rw [if_neg e] at h; exact absurd rfl h
theorem stE_on {s : DevS} (h : stE s = 0) : s.off = false := by
  unfold stE at h; by_cases e : s.off = true
  · rw [if_pos e] at h; exact absurd h (by decide)
  · simpa using e
/-- What Range, Bytes, Publish answer, and the device behind them. -/
def rangeP (p m : Int) (s : DevS) : Int × DevS := if s.off = true then (5, s) else if m < 1 then (0, s) else if rdy s.ls.length false p m ≠ 0 then (6, s) else lastS p.toNat m.toNat s
def bytesP (p : Int) (b : List Nat) (s : DevS) : Int × DevS := if s.off = true then (5, s) else if b = [] then (0, s) else if (sto p b s).1 ≠ 0 then sto p b s else lastS p.toNat b.length (sto p b s).2
def pubP (p : Int) (v : Nat) (s : DevS) : Int × DevS := if (st8 p v s).1 ≠ 0 then st8 p v s else lastS p.toNat 8 (st8 p v s).2
/-- A number of n bytes that is told. -/
def loadP (p : Int) (n : Nat) (s : DevS) : Nat × Int := if rdy s.ls.length s.off p n ≠ 0 then (0, rdy s.ls.length s.off p n) else (nm (((imgS s).drop p.toNat).take n), 0)
def wordP (p : Int) (s : DevS) : Nat × Int := if s.off = true then (0, 5) else if p % 8 ≠ 0 then (0, 6) else loadP p 8 s
attribute [local irreducible] Sl pt ro Dev imgS
end Go.Vl

namespace Go.Vl
open Go Go.Proofs
/-- v is no device: nil, or one that no call has made. -/
def NoD (A : SP) (v : Value) : Prop := v = .pointer none ∨ ∃ b, v = .pointer (some ⟨b, 0, none⟩) ∧ Cell A b 0 (.slice none 0 0)
theorem NoD.left {A X : SP} {v : Value} (h : NoD A v) : NoD (A * X) v := h.imp id fun ⟨b, e, hc⟩ => ⟨b, e, hc.left⟩
end Go.Vl

namespace Go.Vl
open Go Go.Proofs
theorem img_lt {s : DevS} : ∀ x ∈ imgS s, x < 256 := fun x hx => by
  unfold imgS img at hx
  obtain ⟨l, _, h⟩ := List.mem_flatMap.1 hx
  unfold lb at h
  obtain ⟨v, _, h⟩ := List.mem_flatMap.1 h
  exact le_bytes _ _ _ h
theorem imgS_len {s : DevS} (hw : WfD s) : (imgS s).length = s.ls.length * 64 := img_length hw.line
theorem img_sub {s : DevS} {p n : Nat} : ∀ x ∈ ((imgS s).drop p).take n, x < 256 := fun x hx => img_lt x (List.mem_of_mem_drop (List.mem_of_mem_take hx))
theorem nm_take0 (xs : List Nat) (n : Nat) : nm (((xs.take n).drop 0).take n) = nm (xs.take n) := by rw [List.drop_zero, List.take_take, Nat.min_self]
theorem Put16_c {A : SP} {a : Option Addr} {c m : Nat} {xs : List Nat} {v : Nat} (hr : Rs A a (bys xs) := by repeat (first | assumption | with_reducible exact rs_sl | with_reducible exact rs_pt0 | exact rs_none | apply Rs.left)) (hm : xs.length = m := by first | assumption | rfl) (hv : v < 65536 := by omega) (hl : m ≤ 1099511627776 := by omega) :
    Fn Tryz.prog 145 #[.slice a m c, .int .u16 (v : Nat)] A (fun r B => ∃ a' c', r = .slice a' (m + 2) c' ∧ m + 2 ≤ c' ∧ B = A * Sl 1 (.slice a' (m + 2) c') (m + 2) (bys (xs ++ le 2 v))) := by
  subst hm; exact fn_rs hr fun hr => fn_sl ((Put16_f A a c xs v hr hv hl).mono fun _ _ ⟨u, e, h⟩ => by rw [e]; exact h)
theorem Take16_c {A : SP} {a : Option Addr} {c m : Nat} {xs : List Nat} {p : Nat} (hr : Rs A a (bys xs) := by repeat (first | assumption | with_reducible exact rs_sl | with_reducible exact rs_pt0 | exact rs_none | apply Rs.left)) (hb : ∀ x ∈ xs, x < 256 := by assumption) (hm : xs.length = m := by first | assumption | rfl) (hp : p + 2 ≤ m := by omega) (hl : m ≤ 1099511627776 := by omega) :
    Fn Tryz.prog 240 #[.slice a m c, .int .i64 (p : Nat)] A (fun r B => r = .tuple #[.int .u16 ((nm ((xs.drop p).take 2) : Nat) : Int), .int .i64 0] ∧ A = B) := by
  subst hm; exact fn_rs hr fun hr => Take16_f A a c xs p hb hr hp hl
theorem Put32_c {A : SP} {a : Option Addr} {c m : Nat} {xs : List Nat} {v : Nat} (hr : Rs A a (bys xs) := by repeat (first | assumption | with_reducible exact rs_sl | with_reducible exact rs_pt0 | exact rs_none | apply Rs.left)) (hm : xs.length = m := by first | assumption | rfl) (hv : v < 4294967296 := by omega) (hl : m ≤ 1099511627776 := by omega) :
    Fn Tryz.prog 146 #[.slice a m c, .int .u32 (v : Nat)] A (fun r B => ∃ a' c', r = .slice a' (m + 4) c' ∧ m + 4 ≤ c' ∧ B = A * Sl 1 (.slice a' (m + 4) c') (m + 4) (bys (xs ++ le 4 v))) := by
  subst hm; exact fn_rs hr fun hr => fn_sl ((Put32_f A a c xs v hr hv hl).mono fun _ _ ⟨u, e, h⟩ => by rw [e]; exact h)
theorem Take32_c {A : SP} {a : Option Addr} {c m : Nat} {xs : List Nat} {p : Nat} (hr : Rs A a (bys xs) := by repeat (first | assumption | with_reducible exact rs_sl | with_reducible exact rs_pt0 | exact rs_none | apply Rs.left)) (hb : ∀ x ∈ xs, x < 256 := by assumption) (hm : xs.length = m := by first | assumption | rfl) (hp : p + 4 ≤ m := by omega) (hl : m ≤ 1099511627776 := by omega) :
    Fn Tryz.prog 239 #[.slice a m c, .int .i64 (p : Nat)] A (fun r B => r = .tuple #[.int .u32 ((nm ((xs.drop p).take 4) : Nat) : Int), .int .i64 0] ∧ A = B) := by
  subst hm; exact fn_rs hr fun hr => Take32_f A a c xs p hb hr hp hl
attribute [local irreducible] Sl pt ro Dev imgS
set_option maxRecDepth 20000 in
set_option maxHeartbeats 1000000 in
theorem FL64_ok {A R : SP} {C : SP → SP} {d : Nat} {s : DevS} (hc : Ct A (Dev d s) R C := by repeat (first | with_reducible exact ct_here | apply ct_left)) {p : Nat} (hoff : s.off = false) (hpm : p + 8 ≤ s.ls.length * 64) :
    Fn Tryz.prog 209 #[.agg [Value.int .i64 (p : Nat)].toArray, .pointer (some ⟨d, 0, none⟩)] (A) (fun r B => r = .tuple #[.int .u64 ((nm (((imgS s).drop p).take 8) : Nat) : Int), .int .i64 0] ∧ A = B) := by
  refine fn_enterW (args := [.agg [Value.int .i64 (p : Nat)].toArray, .pointer (some ⟨d, 0, none⟩)]) Tryz.func209 rfl Tryz.ntmps209 (by simp) ?_; refine tc_have (fun _ _ h => ct_wf2 hc h) fun hw => ?_
  obtain ⟨rfl, hC⟩ := hc
  have htop := hw.top
  have hil : (imgS s).length = s.ls.length * 64 := imgS_len hw
  have hI : (((imgS s).drop p).take 8).length = 8 := by rw [List.length_take, List.length_drop]; omega
  have hIb := img_sub (s := s) (p := p) (n := 8)
  refine sr ?_; refine tl_x rfl (o_box rfl rfl) ?_; rintro _ _ ⟨b2, rfl, rfl⟩; refine tla ?_; refine tla ?_; refine nq ?_; refine sr ?_; refine tla ?_; refine nq ?_; refine tc_seq ?_; refine tc_regh mo dr_refl ?_
  show TH _ _ _ _ _ 12 #[ff,ff,ff,ff,ff,ff,ff,ff,ff,ff,ff,ff] _ _
  refine th_take (i := 0) (listed' := #[tt,ff,ff,ff,ff,ff,ff,ff,ff,ff,ff,ff]) rfl (by kernel_rfl) (by kernel_rfl) (by kernel_rfl) rfl rfl (o_move (by conv => lhs; whnf)) ?_; refine th_take (i := 1) (listed' := #[tt,tt,ff,ff,ff,ff,ff,ff,ff,ff,ff,ff]) rfl (by kernel_rfl) (by kernel_rfl) (by kernel_rfl) rfl rfl (o_fieldAddr (o := 0) Tryz.underlying283 rfl rfl sz3 rfl) ?_; refine th_take (i := 2) (listed' := #[tt,tt,tt,ff,ff,ff,ff,ff,ff,ff,ff,ff]) rfl (by kernel_rfl) (by kernel_rfl) (by kernel_rfl) rfl rfl (by first | exact o_load p3 rfl (by repeat (first | with_reducible exact has_here | with_reducible exact has_pt | apply has_left)) rfl | exact o_loadC p3 rfl (by assumption)) ?_; refine th_take (i := 3) (listed' := #[tt,tt,tt,tt,ff,ff,ff,ff,ff,ff,ff,ff]) rfl (by kernel_rfl) (by kernel_rfl) (by kernel_rfl) rfl rfl (o_move (by conv => lhs; whnf)) ?_; refine th_one (i := 4) (by kernel_rfl) ?_; refine oh_c (i := 4) (listed' := #[tt,tt,tt,tt,tt,ff,ff,ff,ff,ff,ff,ff]) rfl rfl rfl (o_call bd169 rfl (Put64_c (xs := []) (v := 0))) ?_; rintro _ _ ⟨a14, c14, rfl, hc14, rfl⟩; refine ⟨by repeat (first | with_reducible exact dr_refl | apply dr_keep | apply dr_drop), ?_⟩; refine th_take (i := 5) (listed' := #[tt,tt,tt,tt,tt,tt,ff,ff,ff,ff,ff,ff]) rfl (by kernel_rfl) (by kernel_rfl) (by kernel_rfl) rfl rfl (o_len Tryz.underlying57 rfl) ?_; refine th_one (i := 6) (by kernel_rfl) ?_; refine oh_c (i := 6) (listed' := #[tt,tt,tt,tt,tt,tt,tt,ff,ff,ff,ff,ff]) rfl rfl rfl (o_call bd110 rfl (Load_c (s := s) (p := p) (m := 8))) ?_
  rintro _ _ ⟨a16, c16, rfl, hc16, rfl⟩; refine ⟨by repeat (first | with_reducible exact dr_refl | apply dr_keep | apply dr_drop), ?_⟩; refine th_take (i := 7) (listed' := #[tt,tt,tt,tt,tt,tt,tt,tt,ff,ff,ff,ff]) rfl (by kernel_rfl) (by kernel_rfl) (by kernel_rfl) rfl rfl (o_move (by conv => lhs; whnf)) ?_; refine th_take (i := 8) (listed' := #[tt,tt,tt,tt,tt,tt,tt,tt,tt,ff,ff,ff]) rfl (by kernel_rfl) (by kernel_rfl) (by kernel_rfl) rfl rfl (o_extract rfl rfl) ?_; refine th_take (i := 9) (listed' := #[tt,tt,tt,tt,tt,tt,tt,tt,tt,tt,ff,ff]) rfl (by kernel_rfl) (by kernel_rfl) (by kernel_rfl) rfl rfl (o_extract rfl rfl) ?_; refine th_take (i := 10) (listed' := #[tt,tt,tt,tt,tt,tt,tt,tt,tt,tt,tt,ff]) rfl (by kernel_rfl) (by kernel_rfl) (by kernel_rfl) rfl rfl (o_assign (by conv => lhs; whnf)) ?_; refine th_take (i := 11) (listed' := #[tt,tt,tt,tt,tt,tt,tt,tt,tt,tt,tt,tt]) rfl (by kernel_rfl) (by kernel_rfl) (by kernel_rfl) rfl rfl (o_assign (by conv => lhs; whnf)) ?_; refine th_done (by kernel_rfl) ?_; refine q_then_n ?_; refine tc_seq ?_; refine sr ?_; refine tlm ?_; refine tv (o_nei rfl rfl) ?_; refine nq ?_; refine tc_cond rfl (fun h => ?_) (fun h => ?_)
  · exfalso; simp at h
  · try simp only [lv1, lv2, lv3, lv4, lv5, lv6, Bool.not_true, Bool.not_false] at h
    refine tc_skip ?_; refine q_then_n ?_; refine sr ?_; refine tlm ?_; refine tl_c rfl (o_call bd114 rfl (Take64_c (xs := ((imgS s).drop p).take 8) (p := 0) (hm := hI))) ?_; rintro _ _ ⟨rfl, rfl⟩; refine tv (o_extract rfl rfl) ?_; refine tv (o_extract rfl rfl) ?_; refine tla ?_; refine tla ?_; refine nq ?_; refine tc_ret ?_; exact ⟨.tuple #[.int .u64 ((nm (((imgS s).drop p).take 8) : Nat) : Int), .int .i64 0], R * Dev d s, res2 rfl (congrArg (fun z : Nat => Value.int .u64 (z : Int)) (nm_take0 _ _)) rfl, Dr.sat (by repeat (first | with_reducible exact dr_refl | apply dr_keep | apply dr_drop)), rfl, rfl⟩
set_option maxRecDepth 20000 in
set_option maxHeartbeats 1000000 in
theorem FL64_no {A R : SP} {C : SP → SP} {d : Nat} {s : DevS} (hc : Ct A (Dev d s) R C := by repeat (first | with_reducible exact ct_here | apply ct_left)) {p : Int} (hp : -9223372036854775808 ≤ p ∧ p ≤ 9223372036854775807 := by omega) (hno : rdy s.ls.length s.off p 8 ≠ 0) :
    Fn Tryz.prog 209 #[.agg [Value.int .i64 p].toArray, .pointer (some ⟨d, 0, none⟩)] (A) (fun r B => r = .tuple #[.int .u64 0, .int .i64 (rdy s.ls.length s.off p 8)] ∧ A = B) := by
  refine fn_enterW (args := [.agg [Value.int .i64 p].toArray, .pointer (some ⟨d, 0, none⟩)]) Tryz.func209 rfl Tryz.ntmps209 (by simp) ?_
  obtain ⟨rfl, hC⟩ := hc
  refine sr ?_; refine tl_x rfl (o_box rfl rfl) ?_; rintro _ _ ⟨b2, rfl, rfl⟩; refine tla ?_; refine tla ?_; refine nq ?_; refine sr ?_; refine tla ?_; refine nq ?_; refine tc_seq ?_; refine tc_regh mo dr_refl ?_
  show TH _ _ _ _ _ 12 #[ff,ff,ff,ff,ff,ff,ff,ff,ff,ff,ff,ff] _ _
  refine th_take (i := 0) (listed' := #[tt,ff,ff,ff,ff,ff,ff,ff,ff,ff,ff,ff]) rfl (by kernel_rfl) (by kernel_rfl) (by kernel_rfl) rfl rfl (o_move (by conv => lhs; whnf)) ?_; refine th_take (i := 1) (listed' := #[tt,tt,ff,ff,ff,ff,ff,ff,ff,ff,ff,ff]) rfl (by kernel_rfl) (by kernel_rfl) (by kernel_rfl) rfl rfl (o_fieldAddr (o := 0) Tryz.underlying283 rfl rfl sz3 rfl) ?_; refine th_take (i := 2) (listed' := #[tt,tt,tt,ff,ff,ff,ff,ff,ff,ff,ff,ff]) rfl (by kernel_rfl) (by kernel_rfl) (by kernel_rfl) rfl rfl (by first | exact o_load p3 rfl (by repeat (first | with_reducible exact has_here | with_reducible exact has_pt | apply has_left)) rfl | exact o_loadC p3 rfl (by assumption)) ?_; refine th_take (i := 3) (listed' := #[tt,tt,tt,tt,ff,ff,ff,ff,ff,ff,ff,ff]) rfl (by kernel_rfl) (by kernel_rfl) (by kernel_rfl) rfl rfl (o_move (by conv => lhs; whnf)) ?_; refine th_one (i := 4) (by kernel_rfl) ?_; refine oh_c (i := 4) (listed' := #[tt,tt,tt,tt,tt,ff,ff,ff,ff,ff,ff,ff]) rfl rfl rfl (o_call bd169 rfl (Put64_c (xs := []) (v := 0))) ?_; rintro _ _ ⟨a14, c14, rfl, hc14, rfl⟩; refine ⟨by repeat (first | with_reducible exact dr_refl | apply dr_keep | apply dr_drop), ?_⟩; refine th_take (i := 5) (listed' := #[tt,tt,tt,tt,tt,tt,ff,ff,ff,ff,ff,ff]) rfl (by kernel_rfl) (by kernel_rfl) (by kernel_rfl) rfl rfl (o_len Tryz.underlying57 rfl) ?_; refine th_one (i := 6) (by kernel_rfl) ?_; refine oh_c (i := 6) (listed' := #[tt,tt,tt,tt,tt,tt,tt,ff,ff,ff,ff,ff]) rfl rfl rfl (o_call bd110 rfl (LoadNo_c (s := s) (p := p) (m := 8))) ?_
  rintro _ _ ⟨rfl, rfl⟩; refine ⟨by repeat (first | with_reducible exact dr_refl | apply dr_keep | apply dr_drop), ?_⟩; refine th_take (i := 7) (listed' := #[tt,tt,tt,tt,tt,tt,tt,tt,ff,ff,ff,ff]) rfl (by kernel_rfl) (by kernel_rfl) (by kernel_rfl) rfl rfl (o_move (by conv => lhs; whnf)) ?_; refine th_take (i := 8) (listed' := #[tt,tt,tt,tt,tt,tt,tt,tt,tt,ff,ff,ff]) rfl (by kernel_rfl) (by kernel_rfl) (by kernel_rfl) rfl rfl (o_extract rfl rfl) ?_; refine th_take (i := 9) (listed' := #[tt,tt,tt,tt,tt,tt,tt,tt,tt,tt,ff,ff]) rfl (by kernel_rfl) (by kernel_rfl) (by kernel_rfl) rfl rfl (o_extract rfl rfl) ?_; refine th_take (i := 10) (listed' := #[tt,tt,tt,tt,tt,tt,tt,tt,tt,tt,tt,ff]) rfl (by kernel_rfl) (by kernel_rfl) (by kernel_rfl) rfl rfl (o_assign (by conv => lhs; whnf)) ?_; refine th_take (i := 11) (listed' := #[tt,tt,tt,tt,tt,tt,tt,tt,tt,tt,tt,tt]) rfl (by kernel_rfl) (by kernel_rfl) (by kernel_rfl) rfl rfl (o_assign (by conv => lhs; whnf)) ?_; refine th_done (by kernel_rfl) ?_; refine q_then_n ?_; refine tc_seq ?_; refine sr ?_; refine tlm ?_; refine tv (o_nei rfl rfl) ?_; refine nq ?_; refine tc_cond rfl (fun h => ?_) (fun h => ?_)
  · try simp only [lv1, lv2, lv3, lv4, lv5, lv6, Bool.not_true, Bool.not_false] at h
    refine sr ?_; refine tlm ?_; refine tla ?_; refine tla ?_; refine nq ?_; refine tc_ret ?_; refine q_then_r ?_; exact ⟨.tuple #[.int .u64 0, .int .i64 (rdy s.ls.length s.off p 8)], R * Dev d s, res2 rfl rfl rfl, Dr.sat (by repeat (first | with_reducible exact dr_refl | apply dr_keep | apply dr_drop)), rfl, rfl⟩
  · exfalso; exact hno (by simpa using h)
theorem FL64_c {A R : SP} {C : SP → SP} {d : Nat} {s : DevS} (hc : Ct A (Dev d s) R C := by repeat (first | with_reducible exact ct_here | apply ct_left)) {p : Int} (hp : -9223372036854775808 ≤ p ∧ p ≤ 9223372036854775807 := by omega) : Fn Tryz.prog 209 #[.agg [Value.int .i64 p].toArray, .pointer (some ⟨d, 0, none⟩)] A (fun r B => r = .tuple #[.int .u64 (((loadP p 8 s).1 : Nat) : Int), .int .i64 (loadP p 8 s).2] ∧ A = B) := by
  by_cases h : rdy s.ls.length s.off p 8 = 0
  · have h0 := rdy0 h
    obtain ⟨q, rfl⟩ := Int.eq_ofNat_of_zero_le h0.2.1
    have e : loadP (q : Int) 8 s = (nm (((imgS s).drop q).take 8), 0) := by unfold loadP; rw [if_neg (by simpa using h)]; rfl
    rw [e]; exact FL64_ok hc h0.1 (by omega)
  · have e : loadP p 8 s = (0, rdy s.ls.length s.off p 8) := by unfold loadP; rw [if_pos (by simpa using h)]; rfl
    rw [e]; exact FL64_no hc hp (by simpa using h)
set_option maxRecDepth 20000 in
set_option maxHeartbeats 1000000 in
theorem Word_c {A R : SP} {C : SP → SP} {d : Nat} {s : DevS} (hc : Ct A (Dev d s) R C := by repeat (first | with_reducible exact ct_here | apply ct_left)) {p : Int} (hp : -9223372036854775808 ≤ p ∧ p ≤ 9223372036854775807 := by omega) :
    Fn Tryz.prog 163 #[.pointer (some ⟨d, 0, none⟩), .int .i64 p] (A) (fun r B => r = .tuple #[.int .u64 (((wordP p s).1 : Nat) : Int), .int .i64 (wordP p s).2] ∧ A = B) := by
  refine fn_enterW (args := [.pointer (some ⟨d, 0, none⟩), .int .i64 p]) Tryz.func163 rfl Tryz.ntmps163 (by simp) ?_; refine sr ?_; refine tla ?_; refine tla ?_; refine nq ?_; refine tc_seq ?_; refine sr ?_; refine tlm ?_; refine tl_c rfl (o_call bd208 rfl (alive_c hc)) ?_; rintro _ _ ⟨rfl, rfl⟩; refine tla ?_; refine nq ?_; refine sr ?_; refine tlm ?_; refine tv (o_nei rfl rfl) ?_; refine nq ?_; refine tc_cond rfl (fun h => ?_) (fun h => ?_)
  · try simp only [lv1, lv2, lv3, lv4, lv5, lv6, Bool.not_true, Bool.not_false] at h
    refine sr ?_; refine tlm ?_; refine tla ?_; refine tla ?_; refine nq ?_; refine tc_ret ?_; refine q_then_r ?_
    have ho := stE_off h
    have e : wordP p s = (0, 5) := by unfold wordP; rw [if_pos ho]
    have e2 : stE s = 5 := by unfold stE; rw [if_pos ho]
    rw [e]
    exact ⟨.tuple #[.int .u64 0, .int .i64 5], A, res2 rfl rfl (congrArg (Value.int .i64) e2), fun _ _ h => h, rfl, rfl⟩
  · have ho : s.off = false := stE_on (by simpa using h)
    refine tc_skip ?_; refine q_then_n ?_; refine tc_seq ?_; refine sr ?_; refine tlm ?_; refine tv (o_rem rfl rfl (by decide)) ?_; refine tv (o_nei rfl rfl) ?_; refine nq ?_; refine tc_cond rfl (fun h => ?_) (fun h => ?_)
    · try simp only [lv1, lv2, lv3, lv4, lv5, lv6, Bool.not_true, Bool.not_false] at h
      refine sr ?_; refine tla ?_; refine tla ?_; refine nq ?_; refine tc_ret ?_; refine q_then_r ?_
      have e : wordP p s = (0, 6) := by unfold wordP; rw [if_neg (by rw [ho]; decide), if_pos (fun e => h (by rw [Int.tmod_eq_zero_of_dvd (Int.dvd_of_emod_eq_zero e)]))]
      rw [e]
      exact ⟨.tuple #[.int .u64 0, .int .i64 6], A, res2 rfl rfl rfl, fun _ _ h => h, rfl, rfl⟩
    · try simp only [lv1, lv2, lv3, lv4, lv5, lv6, Bool.not_true, Bool.not_false] at h
      refine tc_skip ?_; refine q_then_n ?_; refine sr ?_; refine tlm ?_; refine tv (o_bS (l := [Value.int .i64 p]) (pv_cons (by conv => lhs; whnf) pv_nil) Tryz.underlying283 z283 (pl283 Tryz.underlying283) rfl) ?_; refine tlm ?_; refine tl_c rfl (o_call bd209 rfl (FL64_c hc (p := p))) ?_; rintro _ _ ⟨rfl, rfl⟩; refine tv (o_extract rfl rfl) ?_; refine tv (o_extract rfl rfl) ?_; refine tla ?_; refine tla ?_; refine nq ?_; refine tc_ret ?_
      have e : wordP p s = loadP p 8 s := by unfold wordP; rw [if_neg (by rw [ho]; decide), if_neg (fun e => e (Int.emod_eq_zero_of_dvd (Int.dvd_of_tmod_eq_zero (by simpa using h))))]
      rw [e]
      exact ⟨_, A, res2 rfl rfl rfl, Dr.sat (by repeat (first | with_reducible exact dr_refl | apply dr_keep | apply dr_drop)), rfl, rfl⟩
end Go.Vl

namespace Go.Vl
open Go Go.Proofs
/-- How many words bytes touch. -/
def cw (p m : Nat) : Nat := if m = 0 then 0 else (p + m - 1) / 8 - p / 8 + 1
theorem spl_nil {α : Type} (l : List α) (p : Nat) : spl l p [] = l := by simp [spl]
theorem spl_take {l b : List Nat} {p i : Nat} (hi : i < b.length) (hp : p + b.length ≤ l.length) : (spl l p (b.take i)).set (p + i) b[i] = spl l p (b.take (i + 1)) := by
  apply List.ext_getElem?
  intro j
  have h1 : (b.take i).length = i := by rw [List.length_take]; omega
  have h2 : (b.take (i + 1)).length = i + 1 := by rw [List.length_take]; omega
  rw [spl_at (by omega), List.getElem?_set, spl_length (by omega)]
  by_cases hj : p + i = j
  · subst hj
    rw [if_pos rfl, if_pos (by omega), if_pos (by omega), show p + i - p = i by omega, List.getElem?_take, if_pos (by omega), List.getElem?_eq_getElem hi]
  · rw [if_neg hj, spl_at (by omega), h1, h2]
    by_cases h : p ≤ j ∧ j < p + i
    · rw [if_pos h, if_pos (by omega), List.getElem?_take, List.getElem?_take, if_pos (by omega), if_pos (by omega)]
    · rw [if_neg h, if_neg (by omega)]
/-- The image that the statement begins with. -/
def im (n : Nat) : List Nat := (List.range n).map fun i => (i + 1) % 256
theorem lineF_lb {xs : List Nat} (hb : ∀ x ∈ xs, x < 256) {i : Nat} (hi : i * 64 + 64 ≤ xs.length) : lb (seenL (lineF xs i)) = (xs.drop (i * 64)).take 64 := by
  have e : seenL (lineF xs i) = (List.replicate 8 0).mapIdx fun k _ => wordF xs i k := by simp [seenL, lineF]
  rw [e]
  have key : ∀ k, k ≤ 8 → lb (((List.replicate 8 0).mapIdx fun k _ => wordF xs i k).take k) = (xs.drop (i * 64)).take (k * 8) := by
    intro k
    induction k with
    | zero => intro _; simp [lb]
    | succ k ih =>
      intro hk
      rw [lb_take (by simp; omega), ih (by omega)]
      simp only [List.getElem_mapIdx, wordF]
      have h1 := le_nm ((xs.drop (i * 64 + k * 8)).take 8) (fun x hx => hb x (List.mem_of_mem_drop (List.mem_of_mem_take hx)))
      rw [List.length_take, List.length_drop, Nat.min_eq_left (by omega)] at h1
      rw [h1, show (k + 1) * 8 = k * 8 + 8 by omega, List.take_add, List.drop_drop]
  have := key 8 (by omega)
  rwa [List.take_of_length_le (by simp)] at this
theorem img_from {n : Nat} {xs : List Nat} (hb : ∀ x ∈ xs, x < 256) (hl : xs.length = n * 64) : imgS (fromS n xs) = xs := by
  have e : imgS (fromS n xs) = ((List.range n).map fun i => (xs.drop (i * 64)).take 64).flatten := by
    unfold imgS img fromS
    rw [List.flatMap_def]
    congr 1
    apply List.ext_getElem
    · simp [newS]
    · intro j h1 h2
      simp only [List.length_map, List.length_mapIdx, List.length_range] at h1 h2
      simp only [List.getElem_map, List.getElem_mapIdx, List.getElem_range]
      exact lineF_lb hb (by omega)
  rw [e]
  have key : ∀ k, k ≤ n → ((List.range k).map fun i => (xs.drop (i * 64)).take 64).flatten = xs.take (k * 64) := by
    intro k
    induction k with
    | zero => intro _; simp
    | succ k ih =>
      intro hk
      rw [List.range_succ, List.map_append, List.flatten_append, ih (by omega)]
      simp only [List.map_cons, List.map_nil, List.flatten_cons, List.flatten_nil, List.append_nil]
      rw [show (k + 1) * 64 = k * 64 + 64 by omega, List.take_add]
  rw [key n (Nat.le_refl _), ← hl, List.take_length]
end Go.Vl

namespace Go.Vl
open Go Go.Proofs
/-! ### What all contents of the lines of a range have in common -/
/-- All contents of all lines have the bytes c from at_ on. -/
def Ag (at_ : Nat) (c : List Nat) (s : DevS) : Prop := ∀ x, x < c.length → ∀ l, s.ls[(at_ + x) / 64]? = some l → ∀ σ ∈ l.st, (lb σ)[(at_ + x) % 64]? = c[x]?
def AgI (at_ : Nat) (c : List Nat) (I : List Nat) : Prop := ∀ x, x < c.length → I[at_ + x]? = c[x]?
/-! ### Lines are flushed -/
/-- Lines from q on, k of them, flushed. -/
def flsh (k q : Nat) (ls : List LineS) : List LineS := ls.mapIdx fun i l => if q ≤ i ∧ i < q + k then flushL l else l
end Go.Vl

namespace Go.Vl
open Go Go.Proofs
/-- Every line has one content alone. -/
def Cln (s : DevS) : Prop := ∀ l ∈ s.ls, l.st.length = 1
def chunk (q : Nat) (I : List Nat) : List Nat := (I.drop (q * 64)).take 64
/-- Every content of every line is as X says. -/
def Poss (X : Nat → List Nat → Prop) (s : DevS) : Prop := ∀ (q : Nat) (l : LineS), s.ls[q]? = some l → ∀ σ ∈ l.st, X q (lb σ)
theorem img_chk {s : DevS} (hw : WfD s) {q : Nat} (hq : q < s.ls.length) : chunk q (imgS s) = lb (seenL s.ls[q]) := by
  have h1 := img_at hw.line hq
  unfold chunk imgS
  rw [h1, ← seen8 (hw.line _ (List.getElem_mem hq)), List.take_left]
theorem poss_img {X : Nat → List Nat → Prop} {s : DevS} (hw : WfD s) (h : Poss X s) {q : Nat} (hq : q < s.ls.length) : X q (chunk q (imgS s)) := by
  rw [img_chk hw hq]; exact h q _ (List.getElem?_eq_getElem hq) _ (seenL_mem (hw.line _ (List.getElem_mem hq)))
/-- The state behind a loss. -/
def Lost (X : Nat → List Nat → Prop) (n : Nat) (s : DevS) : Prop := s.off = true ∧ WfD s ∧ Cln s ∧ Poss X s ∧ s.ls.length = n
/-- What holds behind a store that went well, seen from before. -/
def Went (X : Nat → List Nat → Prop) (p m : Nat) (s s2 : DevS) : Prop := s2.off = false ∧ WfD s2 ∧ Poss X s2 ∧ s2.ls.length = s.ls.length ∧ ∀ q : Nat, (q + 1) * 64 ≤ p ∨ p + m ≤ q * 64 → s2.ls[q]? = s.ls[q]?
end Go.Vl

namespace Go.Vl
open Go Go.Proofs
theorem crL_app : ∀ {xs ys : List Nat} {r : Nat}, crL r (xs ++ ys) = crL (crL r xs) ys
  | [], _, _ => rfl
  | x :: xs, ys, r => by show crL _ (xs ++ ys) = crL (crL _ xs) ys; exact crL_app
theorem crc_app {s : Nat} {xs ys : List Nat} : crc s (xs ++ ys) = crc (crc s xs) ys := by
  unfold crc; rw [crL_app, Nat.xor_assoc (crL _ xs), Nat.xor_self, Nat.xor_zero]
/-- How many bytes are added behind n bytes. -/
def pad8 (n : Nat) : Nat := (8 - n % 8) % 8
def up8 (n : Nat) : Nat := n + pad8 n
theorem up8_le (n : Nat) : n ≤ up8 n ∧ up8 n < n + 8 := by unfold up8 pad8; omega
/-- The head of a record, but for its sum. -/
def recH (p n : Nat) : List Nat := le 8 p ++ le 8 n
theorem recH_len (p n : Nat) : (recH p n).length = 16 := by unfold recH; rw [List.length_append, le_length, le_length]
theorem recH_b (p n : Nat) : ∀ x ∈ recH p n, x < 256 := fun x hx => by
  rcases List.mem_append.1 hx with h | h <;> exact le_bytes _ _ _ h
/-- A record's bytes. -/
def recS (p : Nat) (old : List Nat) : List Nat := recH p old.length ++ le 8 (crc 0 (recH p old.length ++ old)) ++ old ++ List.replicate (pad8 old.length) 0
theorem recS_eq (p : Nat) (old : List Nat) : recS p old = recH p old.length ++ le 8 (crc 0 (recH p old.length ++ old)) ++ old ++ List.replicate (pad8 old.length) 0 := rfl
theorem recS_len (p : Nat) (old : List Nat) : (recS p old).length = 24 + up8 old.length := by
  unfold recS up8; simp only [List.length_append, recH_len, le_length, List.length_replicate]; omega
/-- What records of so many bytes take. -/
def needF : List Int → Int → Int × Int
  | [], s => (s, 0)
  | n :: l, s => if n < 1 then (0, 2) else if 9223372036854775807 < n + pad8 n.toNat then (0, 2) else if 9223372036854775807 - 24 - s < n + pad8 n.toNat then (0, 2) else needF l (s + 24 + (n + pad8 n.toNat))
def needS (l : List Int) : Int × Int := needF l 0
/-- May an extent be? -/
def mayX (n at_ sz : Nat) (x : Int × Int) : Bool := decide (1 ≤ x.2 ∧ 64 ≤ x.1 ∧ x.1 + x.2 ≤ n ∧ (x.1 + x.2 ≤ at_ ∨ (at_ + sz : Nat) ≤ x.1))
/-- Where a log may lie. -/
structure LogW (n at_ sz : Nat) : Prop where
  a : 64 ≤ at_
  am : at_ % 64 = 0
  s : 128 ≤ sz
  sm : sz % 64 = 0
  top : at_ + sz ≤ n
/-- Records are stored, one behind the other. -/
def putF : Nat → List (Int × Int) → DevS → Int × DevS
  | _, [], s => (0, s)
  | p, x :: l, s => if (sto (p : Nat) (recS x.1.toNat (((imgS s).drop x.1.toNat).take x.2.toNat)) s).1 ≠ 0 then sto (p : Nat) (recS x.1.toNat (((imgS s).drop x.1.toNat).take x.2.toNat)) s
    else putF (p + (24 + up8 x.2.toNat)) l (sto (p : Nat) (recS x.1.toNat (((imgS s).drop x.1.toNat).take x.2.toNat)) s).2
def lensX (l : List (Int × Int)) : List Int := l.map (·.2)
def writeS (at_ sz : Nat) (l : List (Int × Int)) (s : DevS) : Int × DevS :=
  if s.off = true then (5, s) else if (wordP (at_ : Nat) s).1 ≠ 0 then (3, s) else if l.all (mayX (s.ls.length * 64) at_ sz) = false then (6, s)
  else if (needS (lensX l)).2 ≠ 0 ∨ ((sz - 64 : Nat) : Int) < (needS (lensX l)).1 then (111, s) else if l = [] then (0, s)
  else if (putF (at_ + 64) l s).1 ≠ 0 then putF (at_ + 64) l s
  else if (rangeP ((at_ + 64 : Nat) : Int) (needS (lensX l)).1 (putF (at_ + 64) l s).2).1 ≠ 0 then rangeP ((at_ + 64 : Nat) : Int) (needS (lensX l)).1 (putF (at_ + 64) l s).2
  else pubP (at_ : Nat) l.length (rangeP ((at_ + 64 : Nat) : Int) (needS (lensX l)).1 (putF (at_ + 64) l s).2).2
def clearS (at_ : Nat) (s : DevS) : Int × DevS := if s.off = true then (5, s) else pubP (at_ : Nat) 0 s
/-- The record at a place of the room. -/
def readS (n at_ sz : Nat) (room : List Nat) (p : Nat) : Option ((Nat × List Nat) × Nat) :=
  if room.length < p + 24 then none
  else if mayX n at_ sz ((nm ((room.drop p).take 8) : Nat), (nm ((room.drop (p + 8)).take 8) : Nat)) = false then none
  else if room.length < p + (24 + up8 (nm ((room.drop (p + 8)).take 8))) then none
  else if recS (nm ((room.drop p).take 8)) ((room.drop (p + 24)).take (nm ((room.drop (p + 8)).take 8))) ≠ (room.drop p).take (24 + up8 (nm ((room.drop (p + 8)).take 8))) then none
  else some ((nm ((room.drop p).take 8), (room.drop (p + 24)).take (nm ((room.drop (p + 8)).take 8))), 24 + up8 (nm ((room.drop (p + 8)).take 8)))
/-- So many records, read. -/
def recsF (n at_ sz : Nat) (room : List Nat) : Nat → Nat → List (Nat × List Nat) × Int
  | 0, _ => ([], 0)
  | k + 1, p => match readS n at_ sz room p with
    | none => ([], 110)
    | some (x, t) => if (recsF n at_ sz room k (p + t)).2 ≠ 0 then ([], 110) else (x :: (recsF n at_ sz room k (p + t)).1, 0)
def roomS (at_ sz : Nat) (s : DevS) : List Nat := ((imgS s).drop (at_ + 64)).take (sz - 64)
def recordsS (at_ sz : Nat) (s : DevS) : List (Nat × List Nat) × Int :=
  if s.off = true then ([], 5) else recsF (s.ls.length * 64) at_ sz (roomS at_ sz s) (wordP (at_ : Nat) s).1 0
/-- Lines are flushed. -/
def flL : Nat → Nat → DevS → Int × DevS
  | 0, _, s => (0, s)
  | k + 1, q, s => if (fl1 ((q * 64 : Nat) : Int) s).1 ≠ 0 then fl1 ((q * 64 : Nat) : Int) s else flL k (q + 1) (fl1 ((q * 64 : Nat) : Int) s).2
def flushX (p m : Nat) (s : DevS) : Int × DevS := flL ((p + m - 1) / 64 - p / 64 + 1) (p / 64) s
def backS (x : Nat × List Nat) (s : DevS) : Int × DevS := if (sto (x.1 : Nat) x.2 s).1 ≠ 0 then sto (x.1 : Nat) x.2 s else flushX x.1 x.2.length (sto (x.1 : Nat) x.2 s).2
/-- Records are brought back, one behind the other. -/
def backF : List (Nat × List Nat) → DevS → Int × DevS
  | [], s => (0, s)
  | x :: l, s => if (backS x s).1 ≠ 0 then backS x s else backF l (backS x s).2
def rollS (at_ sz : Nat) (s : DevS) : (Int × Int) × DevS :=
  if (recordsS at_ sz s).2 ≠ 0 ∨ (recordsS at_ sz s).1 = [] then ((0, (recordsS at_ sz s).2), s)
  else if (backF (recordsS at_ sz s).1.reverse s).1 ≠ 0 then ((0, (backF (recordsS at_ sz s).1.reverse s).1), (backF (recordsS at_ sz s).1.reverse s).2)
  else if (fe (backF (recordsS at_ sz s).1.reverse s).2).1 ≠ 0 then ((0, (fe (backF (recordsS at_ sz s).1.reverse s).2).1), (fe (backF (recordsS at_ sz s).1.reverse s).2).2)
  else if (pubP (at_ : Nat) 0 (fe (backF (recordsS at_ sz s).1.reverse s).2).2).1 ≠ 0 then ((0, (pubP (at_ : Nat) 0 (fe (backF (recordsS at_ sz s).1.reverse s).2).2).1), (pubP (at_ : Nat) 0 (fe (backF (recordsS at_ sz s).1.reverse s).2).2).2)
  else (((recordsS at_ sz s).1.length, 0), (pubP (at_ : Nat) 0 (fe (backF (recordsS at_ sz s).1.reverse s).2).2).2)
end Go.Vl

namespace Go.Vl
open Go Go.Proofs
def lcs11 (d at_ sz : Nat) : List Value := [.pointer (some ⟨d, 0, none⟩), .int .i64 (at_ : Nat), .int .i64 (sz : Nat)]
def xcs (x : Int × Int) : List Value := [.int .i64 x.1, .int .i64 x.2]
structure XW (x : Int × Int) : Prop where
  a : -9223372036854775808 ≤ x.1 ∧ x.1 ≤ 9223372036854775807
  l : -9223372036854775808 ≤ x.2 ∧ x.2 ≤ 9223372036854775807
/-- n, brought up. -/
def rndS (n : Nat) : Int × Int := if 9223372036854775807 < n + pad8 n then (0, 2) else (((up8 n : Nat) : Int), 0)
theorem wr_i64 {x : Int} (h : -9223372036854775808 ≤ x ∧ x ≤ 9223372036854775807) : IntKind.i64.wrap x = x := by simp [IntKind.wrap, IntKind.bits, IntKind.signed]; omega
theorem needF_cons {n : Nat} {l : List Int} {s : Int} (h : 1 ≤ n) : needF ((n : Int) :: l) s = if (rndS n).2 ≠ 0 ∨ 9223372036854775807 - 24 - s < (rndS n).1 then (0, 2) else needF l (s + 24 + (rndS n).1) := by
  have e : needF ((n : Int) :: l) s = if (n : Int) < 1 then (0, 2) else if 9223372036854775807 < (n : Int) + pad8 (n : Int).toNat then (0, 2) else if 9223372036854775807 - 24 - s < (n : Int) + pad8 (n : Int).toNat then (0, 2) else needF l (s + 24 + ((n : Int) + pad8 (n : Int).toNat)) := rfl
  rw [e, if_neg (by omega), Int.toNat_natCast]
  unfold rndS up8
  by_cases h1 : 9223372036854775807 < n + pad8 n
  · rw [if_pos (by omega), if_pos h1, if_pos (.inl (by decide))]
  · rw [if_neg (by omega), if_neg h1]
    by_cases h2 : 9223372036854775807 - 24 - s < ((n + pad8 n : Nat) : Int)
    · rw [if_pos (by omega), if_pos (.inr h2)]
    · rw [if_neg (by omega), if_neg (by simp only [ne_eq, not_true, false_or]; exact h2)]
      congr 1
theorem needF_drop {xs : List Int} {i : Nat} (h : i < xs.length) (s : Int) : needF (xs.drop i) s = needF (xs[i] :: xs.drop (i + 1)) s := by rw [List.drop_eq_getElem_cons h]
theorem needF_bad {n : Int} {l : List Int} {s : Int} (h : n < 1) : needF (n :: l) s = (0, 2) := by
  show (if n < 1 then _ else _) = _
  rw [if_pos h]
theorem Sum_2 {A : SP} {a a2 : Option Addr} {m m2 c c2 b : Nat} {xs ys : List Nat} {E : TypeId} (h1 : Rs A a (bys xs)) (e1 : xs.length = m) (hb : ∀ x ∈ xs, x < 256) (hl : m ≤ 1099511627776) (k1 : Rs A a2 (bys ys)) (k2 : ys.length = m2) (kb : ∀ x ∈ ys, x < 256) (kl : m2 ≤ 1099511627776) :
    Fn Tryz.prog 211 #[.slice (some ⟨b, 0, none⟩) 2 2] (A * pt b (cl [.slice a m c, .slice a2 m2 c2] E)) (fun r B => r = .int .u32 ((crc 0 (xs ++ ys) : Nat) : Int) ∧ A * pt b (cl [.slice a m c, .slice a2 m2 c2] E) = B) := by
  subst e1 k2
  refine fn_rs (xs := [.slice a xs.length c, .slice a2 ys.length c2]) rs_pt0 fun hr => ?_; refine fn_rs h1.left fun h1 => ?_; refine fn_rs k1.left fun k1 => ?_
  have h := Sum_c (c := 2) (ls := [xs, ys]) ⟨_, rfl, hr, fun i hi => by
    match i, hi with
    | 0, _ => exact ⟨a, c, rfl, h1⟩
    | 1, _ => exact ⟨a2, c2, rfl, k1⟩⟩ rfl (by intro l hl; simp at hl; rcases hl with rfl | rfl; exact hb; exact kb) (by intro l hm; simp at hm; rcases hm with rfl | rfl; exact hl; exact kl) (by show 2 ≤ _; decide)
  rw [show crcs [xs, ys] = crc 0 (xs ++ ys) by rw [crc_app]; rfl] at h
  exact h
attribute [local irreducible] crk crL crc Sl pt ro Dev imgS recS
theorem Round8_c {A : SP} {n : Nat} (hn : n ≤ 9223372036854775807 := by omega) :
    Fn Tryz.prog 210 #[.int .i64 (n : Nat), .int .i64 8] (A) (fun r B => r = .tuple #[.int .i64 (rndS n).1, .int .i64 (rndS n).2] ∧ A = B) := by
  refine fn_enterW (args := [.int .i64 (n : Nat), .int .i64 8]) Tryz.func210 rfl Tryz.ntmps210 (by simp) ?_; refine sr ?_; refine tla ?_; refine tla ?_; refine nq ?_; refine tc_seq ?_; refine sr ?_; refine tlm ?_; refine tv (o_lss rfl rfl) ?_; refine tlm ?_; refine tl_bool (d := 9) rfl (fun h => ?_) (fun h => ?_)
  · exfalso; first | (simp at h; done) | (simp at h; omega)
  · try simp only [lv1, lv2, lv3, lv4, lv5, lv6, Bool.not_true, Bool.not_false] at h
    refine tlm ?_; refine tv (o_lss rfl rfl) ?_; refine tv (o_pick_f rfl (by conv => lhs; whnf)) ?_; refine nq ?_; refine tc_cond rfl (fun h => ?_) (fun h => ?_)
    · exfalso; simp at h
    · try simp only [lv1, lv2, lv3, lv4, lv5, lv6, Bool.not_true, Bool.not_false] at h
      refine tc_skip ?_; refine q_then_n ?_; refine sr ?_; refine tlm ?_; refine tlm ?_; refine tlm ?_; refine tv (o_remN (b := 8) rfl rfl (by decide)) ?_; refine tv (by first | exact o_subI rfl rfl (by omega) | exact o_sub rfl rfl) ?_; refine tl_env (d := 17) (v := .int .i64 ((8 - n % 8 : Nat) : Int)) (by show Value.int .i64 ((8 : Int) - ((n % 8 : Nat) : Int)) = _; congr 1; omega) ?_; refine tlm ?_; refine tv (o_remN (b := 8) rfl rfl (by decide)) ?_; refine tla ?_; refine nq ?_; refine tc_seq ?_; refine sr ?_; refine tlm ?_; refine tlm ?_; refine tv (by first | exact o_subI rfl rfl (by omega) | exact o_sub rfl rfl) ?_; refine tl_env (d := 22) (v := .int .i64 ((9223372036854775807 - pad8 n : Nat) : Int)) (by have hp : pad8 n < 8 := (by unfold pad8; omega); show Value.int .i64 ((9223372036854775807 : Int) - ((pad8 n : Nat) : Int)) = _; congr 1; omega) ?_; refine tv (o_gtr rfl rfl) ?_; refine nq ?_; refine tc_cond rfl (fun h => ?_) (fun h => ?_)
      · have hp : pad8 n < 8 := by unfold pad8; omega
        have hg : 9223372036854775807 < n + pad8 n := by first | omega | (simp at h; omega)
        refine sr ?_; refine tla ?_; refine tla ?_; refine nq ?_; refine tc_ret ?_; refine q_then_r ?_
        have e : rndS n = (0, 2) := by unfold rndS; rw [if_pos hg]
        rw [e]
        exact ⟨.tuple #[.int .i64 0, .int .i64 2], A, res2 rfl rfl rfl, Dr.sat (by repeat (first | with_reducible exact dr_refl | apply dr_keep | apply dr_drop)), rfl, rfl⟩
      · have hp : pad8 n < 8 := by unfold pad8; omega
        have hg : ¬ 9223372036854775807 < n + pad8 n := by first | omega | (simp at h; omega)
        refine tc_skip ?_; refine q_then_n ?_; refine sr ?_; refine tlm ?_; refine tlm ?_; refine tv (by first | exact o_addI rfl rfl (by omega) | exact o_add rfl rfl) ?_; refine tl_env (d := 26) (v := .int .i64 ((up8 n : Nat) : Int)) (by show Value.int .i64 (IntKind.i64.wrap ((n + pad8 n : Nat) : Int)) = _; rw [wr_i64 (by omega)]; rfl) ?_; refine tla ?_; refine tla ?_; refine nq ?_; refine tc_ret ?_
        have e : rndS n = (((up8 n : Nat) : Int), 0) := by unfold rndS; rw [if_neg hg]
        rw [e]
        exact ⟨.tuple #[.int .i64 ((up8 n : Nat) : Int), .int .i64 0], A, res2 rfl rfl rfl, Dr.sat (by repeat (first | with_reducible exact dr_refl | apply dr_keep | apply dr_drop)), rfl, rfl⟩
theorem Need_c {A : SP} {a : Option Addr} {c m : Nat} {xs : List Int} (hr : Rs A a (ints xs) := by repeat (first | assumption | with_reducible exact rs_sl | with_reducible exact rs_pt0 | exact rs_none | apply Rs.left)) (hm : xs.length = m := by first | assumption | rfl) (hx : ∀ x ∈ xs, -9223372036854775808 ≤ x ∧ x ≤ 9223372036854775807 := by assumption) (hml : m ≤ 4611686018427387904 := by omega) :
    Fn Tryz.prog 165 #[.slice a m c] (A) (fun r B => r = .tuple #[.int .i64 (needS xs).1, .int .i64 (needS xs).2] ∧ A = B) := by
  refine fn_enterW (args := [.slice a m c]) Tryz.func165 rfl Tryz.ntmps165 (by simp) ?_; refine sr ?_; refine tla ?_; refine tla ?_; refine nq ?_; refine sr ?_; refine tla ?_; refine nq ?_; refine tc_seq ?_; refine sr ?_; refine tlm ?_; refine tv (o_len Tryz.underlying26 rfl) ?_; refine tlm ?_; refine nq ?_; refine tc_block ?_; refine tc_loop (fun kk ρ BB => ∃ (i : Nat) (sm : Int), (i ≤ m) ∧ (needF (xs.drop i) sm = needS xs) ∧ (0 ≤ sm ∧ sm ≤ 9223372036854775807) ∧ kk = m - i ∧ ρ 4 = .int .i64 sm ∧ ρ 11 = .int .i64 (i : Nat) ∧ ρ 9 = .slice a m c ∧ ρ 10 = .int .i64 (m : Nat) ∧ BB = A) (m := m - (0)) ?_ ?_
  · exact ⟨0, 0, by omega, rfl, by omega, rfl, rfl, rfl, rfl, rfl, rfl⟩
  · intro k ρ B hI
    obtain ⟨i, sm, hp0, hp1, hp2, hkk1, hE4, hE11, hE9, hE10, hBA⟩ := hI
    obtain rfl := hBA.symm
    refine tc_env (d := 4) hE4 ?_; refine tc_env (d := 11) hE11 ?_; refine tc_env (d := 9) hE9 ?_; refine tc_env (d := 10) hE10 ?_
    clear hE4 hE11 hE9 hE10
    refine sr ?_; refine tv (o_lss rfl rfl) ?_; refine nq ?_; refine tc_seq ?_; refine tc_cond rfl (fun h => ?_) (fun h => ?_)
    · have hi : i < xs.length := by first | omega | (simp at h; omega)
      obtain ⟨x, hx1⟩ : ∃ x, xs[i] = x := ⟨_, rfl⟩
      have hxb := hx x (hx1 ▸ List.getElem_mem hi)
      have hnd := needF_drop hi sm
      rw [hx1] at hnd
      obtain ⟨hsm0, hsm1⟩ := hp2
      refine tc_skip ?_; refine q_then_n ?_; refine tc_seq ?_; refine tc_block ?_; refine sr ?_; refine tv (o_ixP1 Tryz.underlying26 sz3 rfl rfl (by omega) (nn_rs hr (by rw [ints_length]; omega))) ?_; refine tv (o_ldP p3 rfl hr (ints_at hi)) ?_; refine tl_env (d := 14) (v := .int .i64 x) (by show Value.int .i64 xs[i] = _; rw [hx1]) ?_; refine tla ?_; refine nq ?_; refine tc_seq ?_; refine sr ?_; refine tlm ?_; refine tv (o_lss rfl rfl) ?_; refine nq ?_; refine tc_cond rfl (fun h => ?_) (fun h => ?_)
      · have g16 : (x < 1) := by first | exact of_decide_eq_true h | (have h2 := h; simp at h2; omega) | simpa using h
        refine sr ?_; refine tla ?_; refine tla ?_; refine nq ?_; refine tc_ret ?_; refine q_then_r (q_block_r (q_then_r (q_then_r (q_block_r (q_then_r ?_)))))
        have e : needS xs = (0, 2) := by rw [← hp1, hnd]; first | exact needF_bad g16 | rw [needF_cons hq1, if_pos hng]
        rw [e]
        exact ⟨.tuple #[.int .i64 0, .int .i64 2], A, res2 rfl rfl rfl, Dr.sat (by repeat (first | with_reducible exact dr_refl | apply dr_keep | apply dr_drop)), rfl, rfl⟩
      · have g16 : ¬ (x < 1) := by first | exact of_decide_eq_false h | (have h2 := h; simp at h2; omega) | simpa using h
        refine tc_skip ?_; refine q_then_n ?_; refine sr ?_; refine tlm ?_
        obtain ⟨q, rfl⟩ := Int.eq_ofNat_of_zero_le (show 0 ≤ x by omega)
        have hq1 : 1 ≤ q := by omega
        have hqr : (rndS q).1 ≤ 9223372036854775807 ∧ 0 ≤ (rndS q).1 := by unfold rndS up8; split <;> simp <;> omega
        refine tl_c rfl (o_call bd210 rfl (Round8_c (n := q))) ?_; rintro _ _ ⟨rfl, rfl⟩; refine tlm ?_; refine tv (o_extract rfl rfl) ?_; refine tv (o_extract rfl rfl) ?_; refine tla ?_; refine tla ?_; refine nq ?_; refine tc_seq ?_; refine sr ?_; refine tlm ?_; refine tv (o_nei rfl rfl) ?_; refine tlm ?_; refine tl_bool (d := 24) rfl (fun h => ?_) (fun h => ?_)
        · have hng : (rndS q).2 ≠ 0 ∨ 9223372036854775807 - 24 - sm < (rndS q).1 := .inl (by first | exact of_decide_eq_true h | (simp at h; omega))
          refine tk ?_; refine tk ?_; refine tk ?_; refine tk ?_; refine tv (o_pick_t rfl (by conv => lhs; whnf)) ?_; refine nq ?_; refine tc_cond_t rfl ?_; refine sr ?_; refine tla ?_; refine tla ?_; refine nq ?_; refine tc_ret ?_; refine q_then_r (q_block_r (q_then_r (q_then_r (q_block_r (q_then_r ?_)))))
          have e : needS xs = (0, 2) := by rw [← hp1, hnd]; first | exact needF_bad g16 | rw [needF_cons hq1, if_pos hng]
          rw [e]
          exact ⟨.tuple #[.int .i64 0, .int .i64 2], A, res2 rfl rfl rfl, Dr.sat (by repeat (first | with_reducible exact dr_refl | apply dr_keep | apply dr_drop)), rfl, rfl⟩
        · have h24 : (rndS q).2 = 0 := by first | (have h9 := of_decide_eq_false h; omega) | (simp at h; omega)
          refine tlm ?_; refine tlm ?_; refine tv (o_subI rfl rfl (by omega)) ?_; refine tv (o_gtr rfl rfl) ?_; refine tv (o_pick_f rfl (by conv => lhs; whnf)) ?_; refine nq ?_; refine tc_cond rfl (fun h => ?_) (fun h => ?_)
          · have hng : (rndS q).2 ≠ 0 ∨ 9223372036854775807 - 24 - sm < (rndS q).1 := by first | assumption | exact .inr (by first | omega | (simp at h; omega))
            refine sr ?_; refine tla ?_; refine tla ?_; refine nq ?_; refine tc_ret ?_; refine q_then_r (q_block_r (q_then_r (q_then_r (q_block_r (q_then_r ?_)))))
            have e : needS xs = (0, 2) := by rw [← hp1, hnd]; first | exact needF_bad g16 | rw [needF_cons hq1, if_pos hng]
            rw [e]
            exact ⟨.tuple #[.int .i64 0, .int .i64 2], A, res2 rfl rfl rfl, Dr.sat (by repeat (first | with_reducible exact dr_refl | apply dr_keep | apply dr_drop)), rfl, rfl⟩
          · have hn9 : ¬ 9223372036854775807 - 24 - sm < (rndS q).1 := by first | omega | (simp at h; omega)
            have hng : ¬ ((rndS q).2 ≠ 0 ∨ 9223372036854775807 - 24 - sm < (rndS q).1) := by omega
            refine tc_skip ?_; refine q_then_n ?_; refine sr ?_; refine tlm ?_; refine tv (by first | exact o_addI rfl rfl (by omega) | exact o_add rfl rfl) ?_; refine tla ?_; refine nq ?_; refine tc_reg ?_; refine tlm ?_; refine tlm ?_; refine tv (by first | exact o_addI rfl rfl (by omega) | exact o_add rfl rfl) ?_; refine tla ?_; refine tl_nil ?_; refine q_block_n (q_then_n ?_); refine tc_reg ?_; refine tv (by first | exact o_addI rfl rfl (by omega) | exact o_add rfl rfl) ?_; refine tlm ?_; refine nq ?_; exact ⟨_, by omega, i + 1, _, by omega, by rw [← hp1, hnd, needF_cons hq1, if_neg hng], by omega, rfl, rfl, rfl, rfl, rfl, rfl⟩
    · obtain rfl : i = m := by first | omega | (simp at h; omega)
      refine tc_exit ?_; refine q_then_e (q_then_e (q_block_x (q_then_n ?_))); refine sr ?_; refine tlm ?_; refine tla ?_; refine tla ?_; refine nq ?_; refine tc_ret ?_
      have e : needS xs = (sm, 0) := by rw [← hp1, List.drop_eq_nil_of_le (by omega)]; rfl
      rw [e]
      exact ⟨.tuple #[.int .i64 sm, .int .i64 0], A, res2 rfl rfl rfl, Dr.sat (by repeat (first | with_reducible exact dr_refl | apply dr_keep | apply dr_drop)), rfl, rfl⟩
theorem may11_c {A R : SP} {C : SP → SP} {d : Nat} {s : DevS} (hc : Ct A (Dev d s) R C := by repeat (first | with_reducible exact ct_here | apply ct_left)) {bl at_ sz : Nat} (hl : Has A bl (cl (lcs11 d at_ sz) 99) := by (repeat (first | assumption | with_reducible exact has_here | with_reducible exact has_pt | apply has_left))) {x : Int × Int} (hx : XW x := by assumption) (hlw : LogW (s.ls.length * 64) at_ sz := by assumption) :
    Fn Tryz.prog 164 #[.pointer (some ⟨bl, 0, none⟩), .agg (xcs x).toArray] (A) (fun r B => r = .bool (mayX (s.ls.length * 64) at_ sz x) ∧ A = B) := by
  refine fn_enterW (args := [.pointer (some ⟨bl, 0, none⟩), .agg (xcs x).toArray]) Tryz.func164 rfl Tryz.ntmps164 (by simp) ?_; refine tc_have (fun _ _ h => ct_wf2 hc h) fun hw => ?_
  have htop := hw.top
  have hpos := hw.pos
  obtain ⟨rfl, hC⟩ := hc
  obtain ⟨⟨hx1, hx2⟩, ⟨hx3, hx4⟩⟩ := hx
  obtain ⟨w1, w2, w3, w4, w5⟩ := hlw
  refine sr ?_; refine tl_x rfl (o_box rfl rfl) ?_; rintro _ _ ⟨b3, rfl, rfl⟩; refine tla ?_; refine nq ?_; refine sr ?_; refine tlm ?_; refine tv (o_nilCheck rfl) ?_; refine tv (o_fieldAddr (o := 0) Tryz.underlying99 rfl rfl sz47 rfl) ?_; refine tv (o_load p47 rfl (by repeat (first | assumption | apply has_left)) rfl) ?_; refine tl_c rfl (o_call bd104 rfl (Size_c (s := s))) ?_; rintro _ _ ⟨rfl, rfl⟩; refine tla ?_; refine nq ?_; refine tc_seq ?_; refine tc_seq ?_; refine tc_cut (fun ρ BB => ∃ (bb : Bool), (bb = decide (¬ (1 ≤ x.2 ∧ 64 ≤ x.1 ∧ x.1 ≤ (s.ls.length : Int) * 64 ∧ x.2 ≤ (s.ls.length : Int) * 64 - x.1))) ∧ ρ 33 = .bool bb ∧ ρ 0 = .pointer (some ⟨bl, 0, none⟩) ∧ ρ 3 = .pointer (some ⟨b3, 0, none⟩) ∧ BB = R * Dev d s * pt b3 (cl (xcs x) 162)) ?_ ?_
  · skip
    refine tc_reg ?_; refine tv (o_fieldAddr (o := 1) Tryz.underlying162 rfl rfl sz3 rfl) ?_; refine tv (by first | exact o_load p3 rfl (by repeat (first | with_reducible exact has_here | with_reducible exact has_pt | apply has_left)) rfl | exact o_loadC p3 rfl (by assumption)) ?_; refine tv (o_lss rfl rfl) ?_; refine tlm ?_; refine tl_bool (d := 14) rfl (fun h => ?_) (fun h => ?_)
    · have g14 : (x.2 < 1) := by first | exact of_decide_eq_true h | (have h2 := h; simp at h2; omega) | simpa using h
      refine tk ?_; refine tk ?_; refine tk ?_; refine tv (o_pick_t rfl (by conv => lhs; whnf)) ?_; refine tlm ?_; refine tk ?_; refine tk ?_; refine tk ?_; refine tk ?_; refine tv (o_pick_t rfl (by conv => lhs; whnf)) ?_; refine tlm ?_; refine tk ?_; refine tk ?_; refine tk ?_; refine tk ?_; refine tk ?_; refine tk ?_; refine tk ?_; refine tv (o_pick_t rfl (by conv => lhs; whnf)) ?_; refine tl_nil ?_; exact ⟨_, by first | exact (decide_eq_true (by omega)).symm | exact (decide_eq_false (by omega)).symm | (rw [decide_eq_decide]; omega), rfl, rfl, rfl, rfl⟩
    · have g14 : ¬ (x.2 < 1) := by first | exact of_decide_eq_false h | (have h2 := h; simp at h2; omega) | simpa using h
      refine tv (o_fieldAddr (o := 0) Tryz.underlying162 rfl rfl sz3 rfl) ?_; refine tv (by first | exact o_load p3 rfl (by repeat (first | with_reducible exact has_here | with_reducible exact has_pt | apply has_left)) rfl | exact o_loadC p3 rfl (by assumption)) ?_; refine tv (o_lss rfl rfl) ?_; refine tv (o_pick_f rfl (by conv => lhs; whnf)) ?_; refine tlm ?_; refine tl_bool (d := 19) rfl (fun h => ?_) (fun h => ?_)
      · have g19 : (x.2 < 1 ∨ x.1 < 64) := by first | exact of_decide_eq_true h | (have h2 := h; simp at h2; omega) | simpa using h
        refine tk ?_; refine tk ?_; refine tk ?_; refine tk ?_; refine tv (o_pick_t rfl (by conv => lhs; whnf)) ?_; refine tlm ?_; refine tk ?_; refine tk ?_; refine tk ?_; refine tk ?_; refine tk ?_; refine tk ?_; refine tk ?_; refine tv (o_pick_t rfl (by conv => lhs; whnf)) ?_; refine tl_nil ?_; exact ⟨_, by first | exact (decide_eq_true (by omega)).symm | exact (decide_eq_false (by omega)).symm | (rw [decide_eq_decide]; omega), rfl, rfl, rfl, rfl⟩
      · have g19 : ¬ (x.2 < 1 ∨ x.1 < 64) := by first | exact of_decide_eq_false h | (have h2 := h; simp at h2; omega) | simpa using h
        refine tv (o_fieldAddr (o := 0) Tryz.underlying162 rfl rfl sz3 rfl) ?_; refine tv (by first | exact o_load p3 rfl (by repeat (first | with_reducible exact has_here | with_reducible exact has_pt | apply has_left)) rfl | exact o_loadC p3 rfl (by assumption)) ?_; refine tlm ?_; refine tv (o_gtr rfl rfl) ?_; refine tv (o_pick_f rfl (by conv => lhs; whnf)) ?_; refine tlm ?_; refine tl_bool (d := 25) rfl (fun h => ?_) (fun h => ?_)
        · have g25 : (x.2 < 1 ∨ x.1 < 64 ∨ (s.ls.length : Int) * 64 < x.1) := by first | exact of_decide_eq_true h | (have h2 := h; simp at h2; omega) | simpa using h
          refine tk ?_; refine tk ?_; refine tk ?_; refine tk ?_; refine tk ?_; refine tk ?_; refine tk ?_; refine tv (o_pick_t rfl (by conv => lhs; whnf)) ?_; refine tl_nil ?_; exact ⟨_, by first | exact (decide_eq_true (by omega)).symm | exact (decide_eq_false (by omega)).symm | (rw [decide_eq_decide]; omega), rfl, rfl, rfl, rfl⟩
        · have g25 : ¬ (x.2 < 1 ∨ x.1 < 64 ∨ (s.ls.length : Int) * 64 < x.1) := by first | exact of_decide_eq_false h | (have h2 := h; simp at h2; omega) | simpa using h
          refine tv (o_fieldAddr (o := 1) Tryz.underlying162 rfl rfl sz3 rfl) ?_; refine tv (by first | exact o_load p3 rfl (by repeat (first | with_reducible exact has_here | with_reducible exact has_pt | apply has_left)) rfl | exact o_loadC p3 rfl (by assumption)) ?_; refine tlm ?_; refine tv (o_fieldAddr (o := 0) Tryz.underlying162 rfl rfl sz3 rfl) ?_; refine tv (by first | exact o_load p3 rfl (by repeat (first | with_reducible exact has_here | with_reducible exact has_pt | apply has_left)) rfl | exact o_loadC p3 rfl (by assumption)) ?_; refine tv (o_subI rfl rfl (by omega)) ?_; refine tv (o_gtr rfl rfl) ?_; refine tv (o_pick_f rfl (by conv => lhs; whnf)) ?_; refine tl_nil ?_; exact ⟨_, by first | exact (decide_eq_true (by omega)).symm | exact (decide_eq_false (by omega)).symm | (rw [decide_eq_decide]; omega), rfl, rfl, rfl, rfl⟩
  · intro ρ B hI
    obtain ⟨bb, hbb0, hE33, hE0, hE3, rfl⟩ := hI
    refine q_then_n ?_; refine tc_env (d := 33) hE33 ?_; refine tc_env (d := 0) hE0 ?_; refine tc_env (d := 3) hE3 ?_
    clear hE33 hE0 hE3
    refine tc_cond rfl (fun h => ?_) (fun h => ?_)
    · have hf := of_decide_eq_true (show decide (¬ (1 ≤ x.2 ∧ 64 ≤ x.1 ∧ x.1 ≤ (s.ls.length : Int) * 64 ∧ x.2 ≤ (s.ls.length : Int) * 64 - x.1)) = true by rw [← hbb0]; exact h)
      refine sr ?_; refine tla ?_; refine nq ?_; refine tc_ret ?_; refine q_then_r ?_
      have e : mayX (s.ls.length * 64) at_ sz x = false := decide_eq_false (by omega)
      rw [e]
      exact ⟨.bool false, _, res1 rfl rfl, Dr.sat (by repeat (first | with_reducible exact dr_refl | apply dr_keep | apply dr_drop)), rfl, rfl⟩
    · have hf : (1 ≤ x.2 ∧ 64 ≤ x.1 ∧ x.1 ≤ (s.ls.length : Int) * 64 ∧ x.2 ≤ (s.ls.length : Int) * 64 - x.1) := by have h9 := of_decide_eq_false (show decide (¬ (1 ≤ x.2 ∧ 64 ≤ x.1 ∧ x.1 ≤ (s.ls.length : Int) * 64 ∧ x.2 ≤ (s.ls.length : Int) * 64 - x.1)) = false by rw [← hbb0]; exact h); omega
      refine tc_skip ?_; refine q_then_n ?_; refine tc_seq ?_; refine tc_regq mo (by kernel_rfl) ?_; refine ql_v rfl (o_fieldAddr (o := 0) Tryz.underlying162 rfl rfl sz3 rfl) ?_; refine ql_v rfl (by first | exact o_load p3 rfl (by repeat (first | with_reducible exact has_here | with_reducible exact has_pt | apply has_left)) rfl | exact o_loadC p3 rfl (by assumption)) ?_; refine ql_v rfl (o_fieldAddr (o := 1) Tryz.underlying162 rfl rfl sz3 rfl) ?_; refine ql_v rfl (by first | exact o_load p3 rfl (by repeat (first | with_reducible exact has_here | with_reducible exact has_pt | apply has_left)) rfl | exact o_loadC p3 rfl (by assumption)) ?_; refine ql_v rfl (o_addI rfl rfl (by omega)) ?_; refine ql_v rfl (o_move (by conv => lhs; whnf)) ?_; refine ql_v rfl (o_nilCheck rfl) ?_; refine ql_v rfl (o_fieldAddr (o := 1) Tryz.underlying99 rfl rfl sz3 rfl) ?_; refine ql_v rfl (o_load p3 rfl (by repeat (first | assumption | apply has_left)) rfl) ?_; refine ql_v rfl (o_leq rfl rfl) ?_; refine ql_v rfl (o_move (by conv => lhs; whnf)) ?_; refine ql_bool (d := 44) rfl (fun h => ?_) (fun h => ?_)
      · have g44 : (x.1 + x.2 ≤ at_) := by first | exact of_decide_eq_true h | (have h2 := h; simp at h2; omega) | simpa using h
        refine ql_skip rfl ?_; refine ql_skip rfl ?_; refine ql_skip rfl ?_; refine ql_skip rfl ?_; refine ql_skip rfl ?_; refine ql_skip rfl ?_; refine ql_skip rfl ?_; refine ql_skip rfl ?_; refine ql_skip rfl ?_; refine ql_skip rfl ?_; refine ql_skip rfl ?_; refine ql_skip rfl ?_; refine ql_v rfl (o_pick_t rfl (by conv => lhs; whnf)) ?_; refine ql_v rfl (o_assign (by conv => lhs; whnf)) ?_; refine ql_nil ?_; refine q_then_n ?_; refine tc_ret ?_
        have e : ∀ b, b = decide (x.1 + x.2 ≤ at_ ∨ ((at_ + sz : Nat) : Int) ≤ x.1) → mayX (s.ls.length * 64) at_ sz x = b := fun b hb => by rw [hb]; unfold mayX; rw [decide_eq_decide]; omega
        exact ⟨.bool (mayX (s.ls.length * 64) at_ sz x), _, res1 rfl (congrArg Value.bool (e _ (by first | exact (decide_eq_true (by omega)).symm | exact (decide_eq_false (by omega)).symm | (rw [decide_eq_decide]; omega)))).symm, Dr.sat (by repeat (first | with_reducible exact dr_refl | apply dr_keep | apply dr_drop)), rfl, rfl⟩
      · have g44 : ¬ (x.1 + x.2 ≤ at_) := by first | exact of_decide_eq_false h | (have h2 := h; simp at h2; omega) | simpa using h
        refine ql_v rfl (o_fieldAddr (o := 0) Tryz.underlying162 rfl rfl sz3 rfl) ?_; refine ql_v rfl (by first | exact o_load p3 rfl (by repeat (first | with_reducible exact has_here | with_reducible exact has_pt | apply has_left)) rfl | exact o_loadC p3 rfl (by assumption)) ?_; refine ql_v rfl (o_move (by conv => lhs; whnf)) ?_; refine ql_v rfl (o_nilCheck rfl) ?_; refine ql_v rfl (o_fieldAddr (o := 1) Tryz.underlying99 rfl rfl sz3 rfl) ?_; refine ql_v rfl (o_load p3 rfl (by repeat (first | assumption | apply has_left)) rfl) ?_; refine ql_v rfl (o_move (by conv => lhs; whnf)) ?_; refine ql_v rfl (o_nilCheck rfl) ?_; refine ql_v rfl (o_fieldAddr (o := 2) Tryz.underlying99 rfl rfl sz3 rfl) ?_; refine ql_v rfl (o_load p3 rfl (by repeat (first | assumption | apply has_left)) rfl) ?_; refine ql_v rfl (o_addI rfl rfl (by omega)) ?_; refine ql_v rfl (o_geq rfl rfl) ?_; refine ql_v rfl (o_pick_f rfl (by conv => lhs; whnf)) ?_; refine ql_v rfl (o_assign (by conv => lhs; whnf)) ?_; refine ql_nil ?_; refine q_then_n ?_; refine tc_ret ?_
        have e : ∀ b, b = decide (x.1 + x.2 ≤ at_ ∨ ((at_ + sz : Nat) : Int) ≤ x.1) → mayX (s.ls.length * 64) at_ sz x = b := fun b hb => by rw [hb]; unfold mayX; rw [decide_eq_decide]; omega
        exact ⟨.bool (mayX (s.ls.length * 64) at_ sz x), _, res1 rfl (congrArg Value.bool (e _ (by first | exact (decide_eq_true (by omega)).symm | exact (decide_eq_false (by omega)).symm | (rw [decide_eq_decide]; omega)))).symm, Dr.sat (by repeat (first | with_reducible exact dr_refl | apply dr_keep | apply dr_drop)), rfl, rfl⟩
theorem record_c {A : SP} {a : Option Addr} {c m p : Nat} {xs : List Nat} (hr : Rs A a (bys xs) := by repeat (first | assumption | with_reducible exact rs_sl | with_reducible exact rs_pt0 | exact rs_none | apply Rs.left)) (hm : xs.length = m := by first | assumption | rfl) (hb : ∀ x ∈ xs, x < 256 := by assumption) (hp : p < 9223372036854775808 := by omega) (hml : m ≤ 1099511627776 := by omega) :
    Fn Tryz.prog 166 #[.int .i64 (p : Nat), .slice a m c] (A) (fun r B => ∃ a2 c2, r = .slice a2 (24 + up8 m) c2 ∧ 24 + up8 m ≤ c2 ∧ B = A * Sl 1 (.slice a2 (24 + up8 m) c2) (24 + up8 m) (bys (recS p xs))) := by
  refine fn_enterW (args := [.int .i64 (p : Nat), .slice a m c]) Tryz.func166 rfl Tryz.ntmps166 (by simp) ?_
  obtain ⟨Z, hZ⟩ : ∃ Z, crc 0 (recH p m ++ xs) = Z := ⟨_, rfl⟩
  have hZb : ∀ x ∈ recH p m ++ xs, x < 256 := fun x hx => by rcases List.mem_append.1 hx with h1 | h1; exact recH_b _ _ x h1; exact hb x h1
  have hZl : Z < 4294967296 := hZ ▸ crc_lt (by decide) hZb
  obtain ⟨Y, hY⟩ : ∃ Y, recH p m ++ le 8 Z ++ xs = Y := ⟨_, rfl⟩
  have hYl : Y.length = 24 + m := by rw [← hY, List.length_append, List.length_append, recH_len, le_length, hm]
  have hYr : recS p xs = Y ++ List.replicate (pad8 m) 0 := by rw [← hY, ← hZ, ← hm]; exact recS_eq _ _
  refine sr ?_; refine tla ?_; refine nq ?_; refine sr ?_; refine tlm ?_; refine tv (by first | exact o_conv64 Tryz.underlying3 Tryz.underlying174 rfl | exact o_conv Tryz.underlying3 Tryz.underlying174 rfl) ?_; refine tl_env (d := 7) (v := .int .u64 ((p : Nat) : Int)) (congrArg (fun z : Nat => Value.int .u64 (z : Int)) (Nat.mod_eq_of_lt (by omega))) ?_; refine tl_c rfl (o_call bd169 rfl (Put64_c (xs := []) (v := p))) ?_; rintro _ _ ⟨a8, c8, rfl, hc8, rfl⟩; refine tlm ?_; refine tv (o_len Tryz.underlying57 rfl) ?_; refine tv (by first | exact o_conv64 Tryz.underlying3 Tryz.underlying174 rfl | exact o_conv Tryz.underlying3 Tryz.underlying174 rfl) ?_; refine tl_env (d := 11) (v := .int .u64 ((m : Nat) : Int)) (congrArg (fun z : Nat => Value.int .u64 (z : Int)) (Nat.mod_eq_of_lt (by omega))) ?_; refine tl_c rfl (o_call bd169 rfl (Put64_c (m := 8) (xs := [] ++ le 8 p) (v := m) (hr := rs_sl) (hm := by rw [List.nil_append, le_length]))) ?_; rintro _ _ ⟨a12, c12, rfl, hc12, rfl⟩; refine tla ?_; refine nq ?_; refine sr ?_; refine tlm ?_; refine tlm ?_; refine tlm ?_; refine tl_x rfl (o_buildSliceL (k := 1) (vs := [.slice a12 (8 + 8) c12, .slice a m c]) (l := [.slice a12 (8 + 8) c12, .slice a m c]) Tryz.underlying41 sz57 z57 rfl rfl (by decide) (by decide) (by intro v hv; simp at hv; rcases hv with rfl | rfl <;> rfl) rfl) ?_; rintro _ _ ⟨b16, rfl, rfl⟩; refine tl_c rfl (o_call bd211 rfl (Sum_2 (xs := recH p m) (ys := xs) rs_sl (recH_len _ _) (recH_b _ _) (by decide) hr.left.left hm hb hml)) ?_
  rintro _ _ ⟨rfl, rfl⟩; refine tv (by first | exact o_conv64 Tryz.underlying32 Tryz.underlying174 rfl | exact o_conv Tryz.underlying32 Tryz.underlying174 rfl) ?_; refine tl_env (d := 18) (v := .int .u64 ((crc 0 (recH p m ++ xs) : Nat) : Int)) (congrArg (fun z : Nat => Value.int .u64 (z : Int)) (Nat.mod_eq_of_lt (by omega))) ?_; refine tl_c rfl (o_call bd169 rfl (Put64_c)) ?_; rintro _ _ ⟨a19, c19, rfl, hc19, rfl⟩; refine tla ?_; refine nq ?_; refine sr ?_; refine tlm ?_; refine tlm ?_; refine tl_x rfl (o_apR Tryz.underlying57 Tryz.underlying57 sz5 by5 z5 rfl (by decide) (by decide) rfl rfl (by repeat (first | with_reducible exact ct_here | apply ct_left)) (by repeat (first | assumption | with_reducible exact rs_sl | with_reducible exact rs_pt0 | exact rs_none | apply Rs.left)) (by first | omega | (simp only [bys_length, ints_length, wds_length, bos_length, List.length_append, List.length_take, List.length_drop, List.length_singleton]; omega)) (by first | exact bys_all _ | exact ints_all _ | exact wds_all _ | exact bos_all _ | rfl) (by first | omega | (simp only [bys_length, ints_length, wds_length, bos_length, List.length_append, List.length_take, List.length_drop, List.length_singleton]; omega)) (by first | exact bys_sn _ _ | exact ints_sn _ _ | exact wds_sn _ _ | exact bos_sn _ _ | exact (bys_append _ _).symm | rfl)) ?_; rintro _ _ ⟨a22, c22, rfl, hc22, rfl⟩; refine tla ?_; refine nq ?_; refine tc_seq ?_
  refine tc_block ?_; refine tc_pre (A' := A * Sl 1 (.slice a22 (24 + m + 0) c22) (24 + m + 0) (bys (Y ++ List.replicate 0 0))) (fun g w h => by have h2 := Dr.sat (A' := A * Sl 1 (.slice a22 (8 + 8 + 8 + m) c22) (8 + 8 + 8 + m) (bys ([] ++ le 8 p ++ le 8 m ++ le 8 (crc 0 (recH p m ++ xs))) ++ bys xs)) (by repeat (first | with_reducible exact dr_refl | apply dr_keep | apply dr_drop)) g w h; rw [hZ, ← bys_append, show [] ++ le 8 p ++ le 8 m ++ le 8 Z ++ xs = Y from hY] at h2; rw [show 24 + m + 0 = 8 + 8 + 8 + m by omega, List.replicate_zero, List.append_nil]; exact h2) ?_; refine tc_loop (fun kk ρ BB => ∃ (i : Nat) (a5 : Option Addr) (c5 : Nat), (i ≤ pad8 m) ∧ (24 + m + i ≤ c5) ∧ kk = pad8 m - i ∧ ρ 5 = .slice a5 (24 + m + i) c5 ∧ Dr BB (A * Sl 1 (.slice a5 (24 + m + i) c5) (24 + m + i) (bys (Y ++ List.replicate i 0)))) (m := pad8 m - (0)) ?_ ?_
  · exact ⟨0, a22, c22, by omega, by omega, rfl, by rw [show 24 + m + 0 = 8 + 8 + 8 + m by omega]; rfl, (by repeat (first | with_reducible exact dr_refl | apply dr_keep | apply dr_drop))⟩
  · intro k ρ B hI
    obtain ⟨i, a5, c5, hp0, hp1, hkk1, hE5, hBA⟩ := hI
    refine tc_pre hBA.sat ?_
    clear hBA
    refine tc_env (d := 5) hE5 ?_
    clear hE5
    refine tc_seq ?_; refine sr ?_; refine tlm ?_; refine tv (o_len Tryz.underlying57 rfl) ?_; refine tv (o_remN (b := 8) rfl rfl (by decide)) ?_; refine tl_env (d := 25) (v := .int .i64 (((24 + m + i) % 8 : Nat) : Int)) (by first | rfl | (show Value.int .i64 _ = _; congr 1; omega)) ?_; refine tv (o_nei rfl rfl) ?_; refine nq ?_; refine tc_cond rfl (fun h => ?_) (fun h => ?_)
    · have hi : i < pad8 m := by have h9 : (24 + m + i) % 8 ≠ 0 := (by first | omega | (simp at h; omega)); unfold pad8 at *; omega
      have hi8 : i < 8 := by have : pad8 m < 8 := (by unfold pad8; omega); omega
      refine tc_skip ?_; refine q_then_n ?_; refine tc_block ?_; refine tc_reg ?_; refine tlm ?_; refine tl_x rfl (o_buildSliceL (k := 1) (vs := bys [0]) (l := bys [0]) Tryz.underlying57 sz5 z5 rfl rfl (by decide) (by decide) (by intro v hv; simp only [bys, b8, List.map_cons, List.map_nil, List.mem_cons, List.not_mem_nil, or_false] at hv; rcases hv with rfl; rfl) rfl) ?_; rintro _ _ ⟨b28, rfl, rfl⟩; refine tl_x rfl (o_apB Tryz.underlying57 Tryz.underlying57 sz5 by5 z5 rfl (by decide) (by decide) rfl rfl rfl (by repeat (first | with_reducible exact ct_here | apply ct_left)) rfl rfl (by omega) (show _ = bys (Y ++ List.replicate i 0 ++ [0]) by rw [← bys_append])) ?_; rintro _ _ ⟨a29, c29, rfl, hc29, rfl⟩; refine tla ?_; refine tl_nil ?_; refine q_block_n (q_then_n ?_); exact ⟨_, by omega, i + 1, a29, c29, by omega, by omega, rfl, rfl, by rw [List.replicate_succ', ← List.append_assoc]; repeat (first | with_reducible exact dr_refl | apply dr_keep | apply dr_drop)⟩
    · obtain rfl : i = pad8 m := by have h9 : (24 + m + i) % 8 = 0 := (by first | omega | (simp at h; omega)); unfold pad8 at *; omega
      refine tc_exit ?_; refine q_then_e (q_then_e (q_block_x (q_then_n ?_))); refine sr ?_; refine tlm ?_; refine tla ?_; refine nq ?_; refine tc_ret ?_
      rw [hYr, show 24 + up8 m = 24 + m + pad8 m by unfold up8; omega]
      exact ⟨_, _, res1 rfl rfl, fun _ _ h => h, a5, c5, rfl, hp1, rfl⟩
end Go.Vl

namespace Go.Vl
open Go Go.Proofs
/-- A line: where its contents' list lies, where each content lies and its words; the mark. -/
structure RL where
  v : Value
  rows : List (Value × List Nat)
  mark : Int
def RL.l (x : RL) : LineS := ⟨x.rows.map Prod.snd, x.mark⟩
def rcl (x : RL) : List Value := [x.v, .int .i64 x.mark]
theorem rcl_len (l : List RL) : ∀ a ∈ l, (rcl a).length = 2 := fun _ _ => rfl
def rowR (p : Value × List Nat) : SP := SlR 1 p.1 64 (bys (lb p.2))
def rlR (x : RL) : SP := Sl 1 x.v x.rows.length (x.rows.map Prod.fst) * Bs rowR x.rows
def rdcs (lv : Value) (s : DevS) (av : Value) : List Value := [.int .i64 ((s.ls.length * 64 : Nat) : Int), lv, .int .i64 s.ops, av, .int .i64 s.cnt, .bool s.off]
/-- The device, its parts told. -/
def RDevC (r : Nat) (lv : Value) (rls : List RL) (av : Value) (kvs : List Value) (s : DevS) : SP :=
  pt r (cl (rdcs lv s av) 195) * Sl 2 lv s.ls.length (rls.flatMap rcl) * Bs rlR rls * ArmsR av kvs s.arms
/-- The device. -/
def RDev (r : Nat) (s : DevS) : SP := fun h => WfD s ∧ ∃ lv rls av kvs, rls.map RL.l = s.ls ∧ kvs.length = s.arms.length ∧ RDevC r lv rls av kvs s h
theorem rdev_iff {r : Nat} {s : DevS} {R : SP} {g : Gh} {w : World} : sat g w (R * RDev r s) ↔ WfD s ∧ ∃ lv rls av kvs, rls.map RL.l = s.ls ∧ kvs.length = s.arms.length ∧ sat g w (R * RDevC r lv rls av kvs s) := by
  constructor
  · intro hs
    obtain ⟨_, ⟨x, y, hd, rfl, ha, hw, lv, rls, av, kvs, h1, h2, h3⟩, hx⟩ := hs.hp
    exact ⟨hw, lv, rls, av, kvs, h1, h2, hs.os, hs.tape, hs.out, _, ⟨x, y, hd, rfl, ha, h3⟩, hx⟩
  · rintro ⟨hw, lv, rls, av, kvs, h1, h2, hs⟩
    exact hs.mono fun h ⟨x, y, hd, e, ha, hb⟩ => ⟨x, y, hd, e, ha, hw, lv, rls, av, kvs, h1, h2, hb⟩
section
variable {P : Program} {n : Nat} {Q : Post} {ρ : Env} {r : Nat} {s : DevS} {R : SP}
end
theorem rdev_back {r : Nat} {s : DevS} {R : SP} {lv av : Value} {rls : List RL} {kvs : List Value} (hw : WfD s) (h1 : rls.map RL.l = s.ls) (h2 : kvs.length = s.arms.length) : ∀ g w, sat g w (R * RDevC r lv rls av kvs s) → sat g w (R * RDev r s) :=
  fun g w hs => rdev_iff.2 ⟨hw, lv, rls, av, kvs, h1, h2, hs⟩
section
variable {r : Nat} {s : DevS} {R F : SP} {lv av : Value} {rls : List RL} {kvs : List Value}
/-- What is read of the device. -/
structure RdevR (A : SP) (r : Nat) (lv : Value) (rls : List RL) (av : Value) (s : DevS) : Prop where
  wf : WfD s
  len : rls.length = s.ls.length
  at_ : ∀ i (h : i < rls.length) (h' : i < s.ls.length), rls[i].l = s.ls[i]
  d : Rs A (some ⟨r, 0, none⟩) (rdcs lv s av)
  lv : ∃ b o c, lv = .slice (some ⟨b, o, none⟩) s.ls.length c ∧ s.ls.length ≤ c ∧ Rs A (some ⟨b, o, none⟩) (rls.flatMap rcl)
  all : ∀ i (h : i < rls.length), ∃ b o c, rls[i].v = .slice (some ⟨b, o, none⟩) rls[i].rows.length c ∧ rls[i].rows.length ≤ c ∧ Rs A (some ⟨b, o, none⟩) (rls[i].rows.map Prod.fst)
  row : ∀ i (h : i < rls.length) j (h' : j < rls[i].rows.length), ∃ b o c, rls[i].rows[j].1 = .slice (some ⟨b, o, none⟩) 64 c ∧ 64 ≤ c ∧ Rs A (some ⟨b, o, none⟩) (bys (lb rls[i].rows[j].2))
theorem rs_in {A X R : SP} {a : Option Addr} {xs : List Value} (e : A = R * X) (h : Rs (R * X) a xs) : Rs A a xs := e ▸ h
theorem rdevR_of (hw : WfD s) (h1 : rls.map RL.l = s.ls) {g : Gh} {w : World} (hs : sat g w (F * RDevC r lv rls av kvs s)) : RdevR (F * RDevC r lv rls av kvs s) r lv rls av s := by
  have hlen : rls.length = s.ls.length := by rw [← h1, List.length_map]
  have hat : ∀ i (h : i < rls.length) (h' : i < s.ls.length), rls[i].l = s.ls[i] := fun i h h' => by
    have : (rls.map RL.l)[i]? = some rls[i].l := by simp [h]
    rw [h1, List.getElem?_eq_getElem h'] at this
    exact (Option.some.inj this).symm
  have hrne : ∀ i (h : i < rls.length), 0 < rls[i].rows.length := fun i h => by
    have hl := hw.line _ (List.getElem_mem (show i < s.ls.length by omega))
    rw [← hat i h (by omega)] at hl
    have := List.length_pos_iff.2 hl.ne
    simpa [RL.l] using this
  refine ⟨hw, hlen, hat, ?_, ?_, ?_, ?_⟩
  · refine rs_in (R := F * Sl 2 lv s.ls.length (rls.flatMap rcl) * Bs rlR rls * ArmsR av kvs s.arms) (X := pt r (cl (rdcs lv s av) 195)) (by unfold RDevC; ac_rfl) rs_pt0
  · have e : F * RDevC r lv rls av kvs s = F * pt r (cl (rdcs lv s av) 195) * Bs rlR rls * ArmsR av kvs s.arms * Sl 2 lv s.ls.length (rls.flatMap rcl) := by unfold RDevC; ac_rfl
    have hpos := hw.pos
    obtain ⟨a, c, e1, e2, e3, e4⟩ := sl_have' e hs
    obtain ⟨b, o, rfl, hc⟩ := e4.some (by rw [e3]; omega)
    exact ⟨b, o, c, e1, e2, rs_rd (rd_cells hc)⟩
  · intro i h
    obtain ⟨R, hR, _⟩ := bs_get (f := rlR) h
    have e : F * RDevC r lv rls av kvs s = F * pt r (cl (rdcs lv s av) 195) * Sl 2 lv s.ls.length (rls.flatMap rcl) * R * Bs rowR rls[i].rows * ArmsR av kvs s.arms * Sl 1 rls[i].v rls[i].rows.length (rls[i].rows.map Prod.fst) := by unfold RDevC; rw [hR]; unfold rlR; ac_rfl
    have hpos := hrne i h
    obtain ⟨a, c, e1, e2, e3, e4⟩ := sl_have' e hs
    obtain ⟨b, o, rfl, hc⟩ := e4.some (by rw [e3]; omega)
    exact ⟨b, o, c, e1, e2, rs_rd (rd_cells hc)⟩
  · intro i h j h'
    obtain ⟨R, hR, _⟩ := bs_get (f := rlR) h
    obtain ⟨R', hR', _⟩ := bs_get (f := rowR) h'
    have e : F * RDevC r lv rls av kvs s = F * pt r (cl (rdcs lv s av) 195) * Sl 2 lv s.ls.length (rls.flatMap rcl) * R * Sl 1 rls[i].v rls[i].rows.length (rls[i].rows.map Prod.fst) * R' * ArmsR av kvs s.arms * SlR 1 rls[i].rows[j].1 64 (bys (lb rls[i].rows[j].2)) := by
      unfold RDevC; rw [hR]; unfold rlR; rw [hR']; unfold rowR; ac_rfl
    obtain ⟨a, c, e1, e2, e3, e4⟩ := slR_have e hs
    obtain ⟨b, o, rfl, hc⟩ := e4.some (by rw [e3]; omega)
    exact ⟨b, o, c, e1, e2, rs_rd (rd_cells hc)⟩
theorem RdevR.left {A X : SP} (h : RdevR A r lv rls av s) : RdevR (A * X) r lv rls av s :=
  ⟨h.wf, h.len, h.at_, h.d.left, let ⟨b, o, c, e1, e2, e3⟩ := h.lv; ⟨b, o, c, e1, e2, e3.left⟩, fun i hi => let ⟨b, o, c, e1, e2, e3⟩ := h.all i hi; ⟨b, o, c, e1, e2, e3.left⟩,
    fun i hi j hj => let ⟨b, o, c, e1, e2, e3⟩ := h.row i hi j hj; ⟨b, o, c, e1, e2, e3.left⟩⟩
theorem RdevR.rows {A : SP} (h : RdevR A r lv rls av s) {i : Nat} (hi : i < rls.length) (hi' : i < s.ls.length) : rls[i].rows.length = s.ls[i].st.length := by
  rw [← h.at_ i hi hi']; simp [RL.l]
theorem RdevR.snd {A : SP} (h : RdevR A r lv rls av s) {i j : Nat} (hi : i < rls.length) (hi' : i < s.ls.length) (hj : j < rls[i].rows.length) : rls[i].rows[j].2 = s.ls[i].st[j]'(by rw [← h.rows hi hi']; exact hj) := by
  have := h.at_ i hi hi'
  have e : s.ls[i].st = rls[i].rows.map Prod.snd := by rw [← this]; rfl
  simp only [e, List.getElem_map]
theorem RdevR.mark {A : SP} (h : RdevR A r lv rls av s) {i : Nat} (hi : i < rls.length) (hi' : i < s.ls.length) : rls[i].mark = s.ls[i].mark := by rw [← h.at_ i hi hi']; rfl
end
end Go.Vl
