/- Slices by their addresses, contexts, regions whose loads are taken first. Conditions: none. -/
import Derived.Test.YtimckjnnjakcoaaGrow
import Derived.OrdersHeld
set_option linter.unusedVariables false
set_option linter.unusedSimpArgs false
namespace Go.Vl
open Go Go.Proofs


/-! ### Contexts -/
/-- A is R and X; C puts something else in X's place. -/
def Ct (A X R : SP) (C : SP → SP) : Prop := A = R * X ∧ ∀ Y, C Y = R * Y
theorem ct_here {R X : SP} : Ct (R * X) X R (fun Y => R * Y) := ⟨rfl, fun _ => rfl⟩
theorem ct_left {A X R Z : SP} {C : SP → SP} (h : Ct A X R C) : Ct (A * Z) X (R * Z) (fun Y => C Y * Z) := by
  obtain ⟨rfl, h⟩ := h
  exact ⟨star_swap _ _ _, fun Y => by show C Y * Z = _; rw [h Y, star_swap]⟩
theorem ct_one {X : SP} : Ct X X emp (fun Y => Y) := ⟨(emp_star X).symm, fun Y => (emp_star Y).symm⟩
/-- Two parts. -/
def Ct2 (A X X' R : SP) (C : SP → SP → SP) : Prop := A = R * X * X' ∧ ∀ Y Y', C Y Y' = R * Y * Y'
theorem ct2_r {A X X' R : SP} {C : SP → SP} (h : Ct A X R C) : Ct2 (A * X') X X' R (fun Y Y' => C Y * Y') := by
  obtain ⟨rfl, h⟩ := h
  exact ⟨rfl, fun Y Y' => by show C Y * Y' = _; rw [h]⟩
theorem ct2_l {A X X' R : SP} {C : SP → SP} (h : Ct A X' R C) : Ct2 (A * X) X X' R (fun Y Y' => C Y' * Y) := by
  obtain ⟨rfl, h⟩ := h
  exact ⟨star_swap _ _ _, fun Y Y' => by show C Y' * Y = _; rw [h, star_swap]⟩
theorem ct2_left {A X X' R Z : SP} {C : SP → SP → SP} (h : Ct2 A X X' R C) : Ct2 (A * Z) X X' (R * Z) (fun Y Y' => C Y Y' * Z) := by
  obtain ⟨rfl, h⟩ := h
  refine ⟨?_, fun Y Y' => ?_⟩
  · ac_rfl
  · show C Y Y' * Z = _; rw [h]; ac_rfl
theorem Ct.sub {A X R : SP} {C : SP → SP} (h : Ct A X R C) {g : Gh} {w : World} (hs : sat g w A) : sat g w X := by
  obtain ⟨rfl, _⟩ := h; exact hs.right
/-- A is A' and more. -/
def Dr (A A' : SP) : Prop := ∃ J, A = A' * J
theorem dr_refl {A : SP} : Dr A A := ⟨emp, (star_emp A).symm⟩
theorem dr_drop {A A' Z : SP} (h : Dr A A') : Dr (A * Z) A' := by
  obtain ⟨J, rfl⟩ := h; exact ⟨J * Z, star_assoc _ _ _⟩
theorem dr_keep {A A' Z : SP} (h : Dr A A') : Dr (A * Z) (A' * Z) := by
  obtain ⟨J, rfl⟩ := h; exact ⟨J, star_swap _ _ _⟩
theorem dr_ct {A X R : SP} {C : SP → SP} (h : Ct A X R C) : Dr A (R * X) := ⟨emp, by rw [star_emp]; exact h.1⟩
theorem Dr.sat {A A' : SP} (h : Dr A A') : ∀ g w, sat g w A → sat g w A' := fun g w hs => by
  obtain ⟨J, rfl⟩ := h; exact hs.left
theorem Dr.trans {A B C : SP} (h : Dr A B) (k : Dr B C) : Dr A C := by
  obtain ⟨J, rfl⟩ := h; obtain ⟨K, rfl⟩ := k; exact ⟨K * J, star_assoc _ _ _⟩

/-! ### Addresses -/
/-- The address of the cell i of a slice. -/
def ptr (a : Option Addr) (i : Nat) : Value := .pointer (a.map fun p => ⟨p.block, p.off + i, none⟩)
theorem ptr_some {b o i : Nat} : ptr (some ⟨b, o, none⟩) i = .pointer (some ⟨b, o + i, none⟩) := rfl
/-- Where there are m elements, there is an address. -/
def Nn (A : SP) (a : Option Addr) (m : Nat) : Prop := ∀ g w, sat g w A → 0 < m → ∃ b o, a = some ⟨b, o, none⟩
theorem Nn.left {A X : SP} {a : Option Addr} {m : Nat} (h : Nn A a m) : Nn (A * X) a m := fun g w hs => h g w hs.left
theorem nn_rd {A : SP} {a : Option Addr} {xs : List Value} {m : Nat} (h : Rd A a xs) (hl : 0 < m → 0 < xs.length) : Nn A a m := fun g w hs h0 => by
  obtain ⟨b, o, e, _⟩ := h.some (hl h0); exact ⟨b, o, e⟩
theorem nn_sl {R : SP} {a : Option Addr} {k m c : Nat} {xs : List Value} (hk : 0 < k) : Nn (R * Sl k (.slice a m c) m xs) a m := fun g w hs h0 => by
  obtain ⟨a', c', e, _, hl, h3⟩ := sl_have hs
  simp only [Value.slice.injEq, true_and] at e
  obtain ⟨rfl, rfl⟩ := e
  obtain ⟨b, o, e, _⟩ := h3.some (by rw [hl]; exact Nat.mul_pos h0 hk)
  exact ⟨b, o, e⟩
theorem nn_some {A : SP} {b o m : Nat} : Nn A (some ⟨b, o, none⟩) m := fun _ _ _ _ => ⟨b, o, rfl⟩

/-- a reads xs, in every world of A. -/
def Rs (A : SP) (a : Option Addr) (xs : List Value) : Prop := ∀ g w, sat g w A → ∀ i v, xs[i]? = some v → ∃ b o, a = some ⟨b, o, none⟩ ∧ w.cell? ⟨b, o + i, none⟩ = some v
theorem Rs.left {A X : SP} {a : Option Addr} {xs : List Value} (h : Rs A a xs) : Rs (A * X) a xs := fun g w hs => h g w hs.left
theorem Rs.right {A X : SP} {a : Option Addr} {xs : List Value} (h : Rs X a xs) : Rs (A * X) a xs := fun g w hs => h g w hs.right
theorem Rs.dr {A B : SP} {a : Option Addr} {xs : List Value} (h : Rs A a xs) (k : Dr B A) : Rs B a xs := fun g w hs => h g w (k.sat g w hs)
theorem rs_rd {A : SP} {a : Option Addr} {xs : List Value} (h : Rd A a xs) : Rs A a xs := fun g w hs i v hv => by
  rcases h with rfl | ⟨b, o, rfl, hc⟩
  · simp at hv
  · exact ⟨b, o, rfl, hc i v hv g w hs⟩
theorem Rs.rd {A : SP} {a : Option Addr} {xs : List Value} (h : Rs A a xs) {g : Gh} {w : World} (hs : sat g w A) : Rd A a xs := rd_key hs h
theorem rs_sl {R : SP} {a : Option Addr} {k m c : Nat} {xs : List Value} : Rs (R * Sl k (.slice a m c) m xs) a xs := fun g w hs => by
  obtain ⟨a', c', e, _, hl, h3⟩ := sl_have hs
  simp only [Value.slice.injEq, true_and] at e
  obtain ⟨rfl, rfl⟩ := e
  exact rs_rd h3 g w hs
theorem rs_pt {R : SP} {b c : Nat} {l xs : List Value} {E : TypeId} (h : (l.drop c).take xs.length = xs) : Rs (R * pt b (cl l E)) (some ⟨b, c, none⟩) xs := fun g w hs i v hv => by
  refine ⟨b, c, rfl, cells_of_has has_here h i v hv g w hs⟩
theorem rs_pt0 {R : SP} {b : Nat} {l : List Value} {E : TypeId} : Rs (R * pt b (cl l E)) (some ⟨b, 0, none⟩) l := rs_pt (by simp)
theorem bys_sn (xs : List Nat) (v : Nat) : bys xs ++ [.int .u8 (v : Int)] = bys (xs ++ [v]) := by rw [bys_append]; rfl
theorem ints_sn (xs : List Int) (v : Int) : ints xs ++ [.int .i64 v] = ints (xs ++ [v]) := by simp [ints]; rfl
theorem wds_sn (xs : List Nat) (v : Nat) : wds xs ++ [.int .u64 (v : Int)] = wds (xs ++ [v]) := by simp [wds]; rfl
theorem bos_sn (xs : List Bool) (v : Bool) : bos xs ++ [.bool v] = bos (xs ++ [v]) := by simp [bos]
theorem rs_nil {A : SP} {a : Option Addr} : Rs A a [] := fun _ _ _ _ _ h => by simp at h
theorem rs_none {A : SP} : Rs A none [] := rs_nil
theorem Rs.sub {A : SP} {a : Option Addr} {xs : List Value} (h : Rs A a xs) (n : Nat) : Rs A a (xs.take n) := fun g w hs i v hv => h g w hs i v (take_some hv)
theorem nn_rs {A : SP} {a : Option Addr} {xs : List Value} {m : Nat} (h : Rs A a xs) (hl : 0 < m → 0 < xs.length) : Nn A a m := fun g w hs h0 => by
  have := hl h0
  obtain ⟨b, o, e, _⟩ := h g w hs 0 xs[0] (List.getElem?_eq_getElem _)
  exact ⟨b, o, e⟩
theorem rs_cut {A : SP} {a : Option Addr} {cap l k : Nat} {xs : List Value} (h : Rs A a xs) (hx : xs.length ≤ cap * k) : Rs A (cutAddr a cap l k) (xs.drop (l * k)) := fun g w hs i v hv => by
  unfold cutAddr
  rw [List.getElem?_drop] at hv
  obtain ⟨b, o, rfl, hc⟩ := h g w hs _ v hv
  by_cases e : cap = l
  · exfalso
    have := (List.getElem?_eq_some_iff.1 hv).1
    subst e; omega
  · rw [if_neg e]
    refine ⟨b, o + l * k, by simp [addr_add], ?_⟩
    rw [← hc]; congr 2; omega
theorem lt_at {xs : List Value} {i : Nat} {v : Value} (h : xs[i]? = some v) : i < xs.length := (List.getElem?_eq_some_iff.1 h).1
/-- A slice that is owned: how long its cells are. -/
theorem ct_len {A R : SP} {C : SP → SP} {k n : Nat} {v : Value} {xs : List Value} (h : Ct A (Sl k v n xs) R C) {g : Gh} {w : World} (hs : sat g w A) : xs.length = n * k := by
  obtain ⟨rfl, _⟩ := h; exact sl_len hs
theorem ct_cap {A R : SP} {C : SP → SP} {k n c : Nat} {a : Option Addr} {xs : List Value} (h : Ct A (Sl k (.slice a n c) n xs) R C) {g : Gh} {w : World} (hs : sat g w A) : n ≤ c := by
  obtain ⟨rfl, _⟩ := h
  obtain ⟨a', c', e, h1, _⟩ := sl_have hs
  simp only [Value.slice.injEq, true_and] at e
  rw [e.2]; exact h1
theorem fn_have {P : Program} {f : FuncId} {args : Array Value} {A : SP} {Q : Value → SP → Prop} {p : Prop} (k : ∀ g w, sat g w A → p) (h : p → Fn P f args A Q) : Fn P f args A Q := fun g w hs => h (k g w hs) g w hs
theorem fn_rs {P : Program} {f : FuncId} {args : Array Value} {A : SP} {Q : Value → SP → Prop} {a : Option Addr} {xs : List Value} (hr : Rs A a xs) (h : Rd A a xs → Fn P f args A Q) : Fn P f args A Q := fun g w hs => h (hr.rd hs) g w hs
theorem fn_eq {P : Program} {f : FuncId} {args : Array Value} {A B : SP} {Q : Value → SP → Prop} (e : A = B) (h : Fn P f args B Q) : Fn P f args A Q := e ▸ h
/-- A call on a part of what there is. -/
theorem fn_ct {P : Program} {f : FuncId} {args : Array Value} {A X R : SP} {C : SP → SP} {Q : Value → SP → Prop} (hc : Ct A X R C) (h : Fn P f args (R * X) (fun r B => ∃ Y, Q r Y ∧ B = R * Y)) : Fn P f args A (fun r B => ∃ Y, Q r Y ∧ B = C Y) := by
  obtain ⟨rfl, hC⟩ := hc
  exact h.mono fun v B ⟨Y, hq, e⟩ => ⟨Y, hq, by rw [hC]; exact e⟩

section
variable {P : Program} {n : Nat} {ρ : Env} {A : SP} {dst : Option Tmp} {ty : TypeId} {pos : String} {after : Array Edge} {gd : Option (Nat × Bool)}
theorem opv_rs {o : Oper} {v : Value} {a : Option Addr} {m : Nat} (hn : Nn A a m) (h0 : 0 < m) (h : ∀ b o', a = some ⟨b, o', none⟩ → OpV P n ρ A o v) : OpV P n ρ A o v := fun g w hs => by
  obtain ⟨b, o', e⟩ := hn g w hs h0
  exact h b o' e g w hs
/-- The address of an element. -/
theorem o_ixP {t e : TypeId} {x y : Operand} {a : Option Addr} {m c k j : Nat} {ik : IntKind} (hu : P.underlying t = some (.slice e)) (hk : szE P e = some k) (hx : ev n ρ x = .slice a m c) (hy : ev n ρ y = .int ik ((j : Nat) : Int)) (h1 : j < m)
    (hn : Nn A a m) : OpV P n ρ A ⟨dst, .indexAddr t x y, ty, pos, after, gd⟩ (ptr a (j * k)) :=
  opv_rs hn (by omega) fun b o e => by subst e; exact o_indexAddrN hu hk hx hy h1
theorem o_ixP1 {t e : TypeId} {x y : Operand} {a : Option Addr} {m c j : Nat} {ik : IntKind} (hu : P.underlying t = some (.slice e)) (hk : szE P e = some 1) (hx : ev n ρ x = .slice a m c) (hy : ev n ρ y = .int ik ((j : Nat) : Int)) (h1 : j < m)
    (hn : Nn A a m) : OpV P n ρ A ⟨dst, .indexAddr t x y, ty, pos, after, gd⟩ (ptr a j) :=
  opv_rs hn (by omega) fun b o e => by subst e; exact o_indexAddrN1 hu hk hx hy h1
theorem o_faP {t : TypeId} {x : Operand} {i : Nat} {a : Option Addr} {off m : Nat} {fs : Array Field} {f : Field} {k o : Nat} (hu : P.underlying t = some (.struct fs)) (hf : fs[i]? = some f) (ho : f.offset = o) (hk : szE P f.type = some (k + 1))
    (hx : ev n ρ x = ptr a off) (hn : Nn A a (m + 1)) : OpV P n ρ A ⟨dst, .fieldAddr t x i, ty, pos, after, gd⟩ (ptr a (off + o)) :=
  opv_rs hn (by omega) fun b o' e => by
    subst e
    have := o_fieldAddr (A := A) (dst := dst) (ty := ty) (pos := pos) (after := after) (gd := gd) hu hf ho hk (show ev n ρ x = .pointer (some ⟨b, o' + off, none⟩) from hx)
    rw [ptr_some, ← Nat.add_assoc]; exact this
theorem o_ncP {x : Operand} {a : Option Addr} {off m : Nat} (hx : ev n ρ x = ptr a off) (hn : Nn A a (m + 1)) : OpV P n ρ A ⟨dst, .nilCheck x, ty, pos, after, gd⟩ (ptr a off) :=
  opv_rs hn (by omega) fun b o' e => by subst e; exact o_nilCheck hx
/-- What stands there. -/
theorem o_ldP {t : TypeId} {x : Operand} {a : Option Addr} {i : Nat} {xs : List Value} {v : Value} (hp : plainE P t = true) (hx : ev n ρ x = ptr a i) (hr : Rs A a xs) (hv : xs[i]? = some v) : OpV P n ρ A ⟨dst, .load t x, ty, pos, after, gd⟩ v := fun g w hs => by
  obtain ⟨b, o, rfl, hc⟩ := hr g w hs i v hv
  refine o_loadC (A := A) hp hx (fun g' w' hs' => ?_) g w hs
  obtain ⟨b', o', e, hc'⟩ := hr g' w' hs' i v hv
  simp only [Option.some.injEq, Addr.mk.injEq, and_true] at e
  obtain ⟨rfl, rfl⟩ := e
  exact hc'
theorem o_ldPN {t : TypeId} {x : Operand} {a : Option Addr} {i q : Nat} {xs vs : List Value} (hp : aggE P t = true) (hk : szE P t = some q) (hx : ev n ρ x = ptr a i) (hr : Rs A a xs) (hv : (xs.drop i).take q = vs) (hl : vs.length = q) (h0 : 0 < q) : OpV P n ρ A ⟨dst, .load t x, ty, pos, after, gd⟩ (.agg vs.toArray) := fun g w hs => by
  have hat : ∀ j v, vs[j]? = some v → xs[i + j]? = some v := fun j v h => by
    rw [← hv, List.getElem?_take] at h
    split at h
    · rwa [List.getElem?_drop] at h
    · cases h
  have h00 : vs[0]? = some vs[0] := List.getElem?_eq_getElem (by omega)
  obtain ⟨b, o, rfl, _⟩ := hr g w hs _ _ (hat 0 _ h00)
  refine o_loadNC (A := A) hp hk hx hl (fun j v hj g' w' hs' => ?_) g w hs
  obtain ⟨b', o', e, hc'⟩ := hr g' w' hs' _ v (hat j v hj)
  simp only [Option.some.injEq, Addr.mk.injEq, and_true] at e
  obtain ⟨rfl, rfl⟩ := e
  rw [Nat.add_assoc]; exact hc'
/-- A store into an owned slice. -/
theorem o_stPV {t : TypeId} {x y : Operand} {k m c i q : Nat} {a : Option Addr} {xs ys vs : List Value} {v : Value} {R : SP} {C : SP → SP} (hk : szE P t = some q) (hx : ev n ρ x = ptr a i) (hy : ev n ρ y = v)
    (hc : v.cells = vs.toArray) (hn : vs.length = q) (ho : ∀ u ∈ vs, oneC u = true) (h0 : 0 < q) (hf : Ct A (Sl k (.slice a m c) m xs) R C) (hi : i + q ≤ m * k) (he : splice xs i vs = ys) :
    OpU P n ρ A ⟨dst, .store t x y, ty, pos, after, gd⟩ (C (Sl k (.slice a m c) m ys)) := fun g w hs => by
  obtain ⟨rfl, hC⟩ := hf
  have hl := sl_len hs
  obtain ⟨b, o, rfl, _⟩ := rs_sl g w hs 0 xs[0] (List.getElem?_eq_getElem (by omega))
  rw [hC]
  exact o_storeSlV (A := R * Sl k (.slice (some ⟨b, o, none⟩) m c) m xs) hk hx hy hc hn ho hi he foc_here g w hs
theorem o_stPN {t : TypeId} {x y : Operand} {k m c i q : Nat} {a : Option Addr} {xs ys vs : List Value} {R : SP} {C : SP → SP} (hk : szE P t = some q) (hx : ev n ρ x = ptr a i) (hy : ev n ρ y = .agg vs.toArray)
    (hn : vs.length = q) (ho : vs.all oneC = true) (h0 : 0 < q) (hf : Ct A (Sl k (.slice a m c) m xs) R C) (hi : i + q ≤ m * k) (he : splice xs i vs = ys) :
    OpU P n ρ A ⟨dst, .store t x y, ty, pos, after, gd⟩ (C (Sl k (.slice a m c) m ys)) :=
  o_stPV hk hx hy rfl hn (fun u hu => List.all_eq_true.1 ho u hu) h0 hf hi he
theorem o_stP {t : TypeId} {x y : Operand} {k m c i : Nat} {a : Option Addr} {xs ys : List Value} {v : Value} {R : SP} {C : SP → SP} (hk : szE P t = some 1) (hx : ev n ρ x = ptr a i) (hy : ev n ρ y = v) (ho : oneC v = true)
    (hf : Ct A (Sl k (.slice a m c) m xs) R C) (hi : i < m * k) (he : xs.set i v = ys) : OpU P n ρ A ⟨dst, .store t x y, ty, pos, after, gd⟩ (C (Sl k (.slice a m c) m ys)) :=
  o_stPV (vs := [v]) hk hx hy (by cases v <;> first | (simp [Vl.oneC] at ho; done) | rfl) rfl (by simpa using ho) (by decide) hf (by omega) (by simpa [splice] using he)

/-- Stores into a block, which is looked for first. -/
theorem o_stU {t : TypeId} {x y : Operand} {b off : Nat} {l l' : List Value} {E : TypeId} {v : Value} {A' : SP} (hx : ev n ρ x = .pointer (some ⟨b, off, none⟩)) (hu : Upd A b (cl l E) (cl l' E) A') (hk : szE P t = some 1) (hy : ev n ρ y = v)
    (ho : oneC v = true) (hl : off < l.length) (he : l.set off v = l') : OpU P n ρ A ⟨dst, .store t x y, ty, pos, after, gd⟩ A' := o_store hk hx hy ho hl he hu
theorem o_stUN {t : TypeId} {x y : Operand} {b off k : Nat} {l l' : List Value} {E : TypeId} {vs : List Value} {A' : SP} (hx : ev n ρ x = .pointer (some ⟨b, off, none⟩)) (hu : Upd A b (cl l E) (cl l' E) A') (hk : szE P t = some k) (hy : ev n ρ y = .agg vs.toArray)
    (hn : vs.length = k) (ho : vs.all oneC = true) (hl : off + k ≤ l.length) (he : splice l off vs = l') : OpU P n ρ A ⟨dst, .store t x y, ty, pos, after, gd⟩ A' := o_storeN hk hx hy hn ho hl he hu
/-- Parts, each told. -/
def PV (n : Nat) (ρ : Env) : List (Nat × Operand) → List (Nat × Value) → Prop
  | [], [] => True
  | (i, x) :: ps, (j, v) :: vs => (i = j ∧ ev n ρ x = v) ∧ PV n ρ ps vs
  | _, _ => False
theorem pv_nil {n : Nat} {ρ : Env} : PV n ρ [] [] := trivial
theorem pv_cons {n i : Nat} {ρ : Env} {x : Operand} {v : Value} {ps : List (Nat × Operand)} {vs : List (Nat × Value)} (h : ev n ρ x = v) (t : PV n ρ ps vs) : PV n ρ ((i, x) :: ps) ((i, v) :: vs) := ⟨⟨rfl, h⟩, t⟩
theorem pv_map {n : Nat} {ρ : Env} : ∀ {ps : List (Nat × Operand)} {vs : List (Nat × Value)}, PV n ρ ps vs → ps.map (fun p => (p.1, ev n ρ p.2)) = vs
  | [], [], _ => rfl
  | (i, x) :: ps, (j, v) :: vs, ⟨⟨e1, e2⟩, t⟩ => by rw [List.map_cons, pv_map t]; simp only [e1, e2]
/-! ### append -/
theorem o_bS {t : TypeId} {fs : Array Field} {places : List (Nat × Nat)} {z l : List Value} {ps : List (Nat × Operand)} {vs : List (Nat × Value)} (hx : PV n ρ ps vs) (hu : P.underlying t = some (.struct fs)) (hz : zeroE P t = some (.agg z.toArray))
    (hp : ∀ w, (fs.mapM fun f => do pure (f.offset, ← sizeOf f.type) : Sem (Array (Nat × Nat))).run P w = .ok places.toArray w)
    (hf : bld places z vs = some l) : OpV P n ρ A ⟨dst, .build t ps.toArray, ty, pos, after, gd⟩ (.agg l.toArray) := o_buildS hu hz hp (by simpa using pv_map hx) hf

/-- append of what a block of its own holds. -/
theorem o_apB {t t' e e' : TypeId} {x y : Operand} {z : Value} {m k q bytes c c0 b : Nat} {a : Option Addr} {xs ys zs : List Value} {A0 R : SP} {C : SP → SP} {E : TypeId}
    (hu : P.underlying t = some (.slice e)) (hu' : P.underlying t' = some (.slice e')) (hk : szE P e = some k) (hb : bytesE P e = some bytes) (hz : zeroE P e = some z) (hzk : z.cells.size = k) (hk0 : 0 < k) (hb0 : 0 < bytes)
    (hx : ev n ρ x = .slice a q c0) (hy : ev n ρ y = .slice (some ⟨b, 0, none⟩) m c) (hA : A = A0 * pt b (cl ys E)) (hf : Ct A0 (Sl k (.slice a q c0) q xs) R C) (hm : ys.length = m * k) (ho : ys.all oneC = true) (hlim : (q + m) * bytes ≤ 140737488355328) (he : xs ++ ys = zs) :
    OpX P n ρ A ⟨dst, .call { callee := .builtin .append, args := #[x, y], argTypes := #[t, t'] }, ty, pos, after, gd⟩ (fun v' B => ∃ a' c', v' = .slice a' (q + m) c' ∧ q + m ≤ c' ∧ B = C (Sl k (.slice a' (q + m) c') (q + m) zs)) := fun g w hs => by
  subst he
  obtain ⟨rfl, hC⟩ := hf
  obtain ⟨v', w', B, hr, hB, rfl⟩ := o_append1 (dst := dst) (ty := ty) (pos := pos) (after := after) (gd := gd) hu hu' hk hb hz hzk hk0 hb0 hx hy (R := R) hA hm ho hlim g w hs
  obtain ⟨a', c', rfl, h1, _⟩ := sl_have hB
  exact ⟨_, w', _, hr, hB, a', c', rfl, h1, (hC _).symm⟩
/-- append of what is read somewhere else. -/
theorem o_apR {t t' e e' : TypeId} {x y : Operand} {z : Value} {m k q bytes c c0 : Nat} {a a2 : Option Addr} {xs ys zs : List Value} {R : SP} {C : SP → SP}
    (hu : P.underlying t = some (.slice e)) (hu' : P.underlying t' = some (.slice e')) (hk : szE P e = some k) (hb : bytesE P e = some bytes) (hz : zeroE P e = some z) (hzk : z.cells.size = k) (hk0 : 0 < k) (hb0 : 0 < bytes)
    (hx : ev n ρ x = .slice a q c0) (hy : ev n ρ y = .slice a2 m c) (hf : Ct A (Sl k (.slice a q c0) q xs) R C) (hr : Rs A a2 ys) (hm : ys.length = m * k) (ho : ys.all oneC = true) (hlim : (q + m) * bytes ≤ 140737488355328) (he : xs ++ ys = zs) :
    OpX P n ρ A ⟨dst, .call { callee := .builtin .append, args := #[x, y], argTypes := #[t, t'] }, ty, pos, after, gd⟩ (fun v' B => ∃ a' c', v' = .slice a' (q + m) c' ∧ q + m ≤ c' ∧ B = C (Sl k (.slice a' (q + m) c') (q + m) zs)) := fun g w hs => by
  subst he
  have hr' := hr.rd hs
  obtain ⟨rfl, hC⟩ := hf
  obtain ⟨v', w', B, hr, hB, rfl⟩ := o_append2 (dst := dst) (ty := ty) (pos := pos) (after := after) (gd := gd) hu hu' hk hb hz hzk hk0 hb0 hx hy rfl hr' hm ho hlim g w hs
  obtain ⟨a', c', rfl, h1, _⟩ := sl_have hB
  exact ⟨_, w', _, hr, hB, a', c', rfl, h1, (hC _).symm⟩
/-- append to no slice. -/
theorem o_apN {t t' e e' : TypeId} {x y : Operand} {z : Value} {m k bytes c : Nat} {a2 : Option Addr} {ys : List Value}
    (hu : P.underlying t = some (.slice e)) (hu' : P.underlying t' = some (.slice e')) (hk : szE P e = some k) (hb : bytesE P e = some bytes) (hz : zeroE P e = some z) (hzk : z.cells.size = k) (hk0 : 0 < k) (hb0 : 0 < bytes)
    (hx : ev n ρ x = .slice none 0 0) (hy : ev n ρ y = .slice a2 m c) (hr : Rs A a2 ys) (hm : ys.length = m * k) (ho : ys.all oneC = true) (hlim : m * bytes ≤ 140737488355328) :
    OpX P n ρ A ⟨dst, .call { callee := .builtin .append, args := #[x, y], argTypes := #[t, t'] }, ty, pos, after, gd⟩ (fun v' B => ∃ a' c', v' = .slice a' m c' ∧ m ≤ c' ∧ B = A * Sl k (.slice a' m c') m ys) := fun g w hs => by
  have hs2 := sl_nil (k := k) hs
  obtain ⟨v', w', B, hr, hB, a', c', rfl, h1, rfl⟩ := o_apR (dst := dst) (ty := ty) (pos := pos) (after := after) (gd := gd) hu hu' hk hb hz hzk hk0 hb0 hx hy (ct_here (R := A)) hr.left hm ho (by rw [Nat.zero_add]; exact hlim) (List.nil_append ys) g w hs2
  simp only [Nat.zero_add] at *
  exact ⟨_, w', _, hr, hB, a', c', rfl, h1, rfl⟩
/-- copy into an owned slice. -/
theorem o_cpP {t t' e : TypeId} {x y : Operand} {k l dl dc dn sl sc m nn : Nat} {a a2 : Option Addr} {xs ys zs : List Value} {R : SP} {C : SP → SP} (hu : P.underlying t = some (.slice e)) (hk : szE P e = some 1)
    (hx : ev n ρ x = .slice (cutAddr a dc l 1) dl dn) (hy : ev n ρ y = .slice a2 sl sc) (hf : Ct A (Sl 1 (.slice a nn dc) nn xs) R C) (hr : Rs A a2 ys) (hys : ys.length = sl) (ho : ys.all oneC = true) (hm : Nat.min sl dl = m) (hfit : l + dl ≤ nn)
    (he : splice xs l (ys.take m) = zs) :
    OpX P n ρ A ⟨dst, .call { callee := .builtin .copy, args := #[x, y], argTypes := #[t, t'] }, ty, pos, after, gd⟩ (fun v B => v = .int .i64 (m : Nat) ∧ B = C (Sl 1 (.slice a nn dc) nn zs)) := fun g w hs => by
  have hr' := hr.rd hs
  obtain ⟨rfl, hC⟩ := hf
  have hl := sl_len hs
  have hcap := ct_cap ct_here hs
  have hm2 : m ≤ dl := by rw [← hm]; exact Nat.min_le_right _ _
  have hm1 : m ≤ sl := by rw [← hm]; exact Nat.min_le_left _ _
  by_cases hm0 : m = 0
  · -- nothing is copied
    subst hm0
    have e0 : zs = xs := by rw [← he]; rfl
    refine ⟨_, w, _, ?_, by rw [hC, e0]; exact hs, rfl, rfl⟩
    have hfc : (Builtin.firstCells 1 0 (.slice a2 sl sc)).run P w = .ok ([] : List Value).toArray w := run_firstCells (A := R * Sl 1 (.slice a nn dc) nn xs) (xs := []) rd_nil (by simp) hs
    simp only [execOp, resolve, List.map_toArray, List.map_cons, List.map_nil, hx, hy]
    rw [run_bind (w' := w) (a := ⟨.builtin .copy #[t, t'] ty _, #[.slice (cutAddr a dc l 1) dl dn, .slice a2 sl sc]⟩) (by rfl)]
    simp only [invoke, builtin]
    rw [run_bind (w' := w) (a := .int .i64 ((0 : Nat) : Nat))]
    · rfl
    unfold Builtin.copy_
    simp only [List.getElem?_toArray, List.getElem?_cons_zero, List.getElem?_cons_succ]
    rw [run_bind (run_und hu)]
    simp only [Builtin.lenOf]
    rw [run_bind (a := sl) (w' := w) rfl, run_bind (run_size hk), hm, run_bind hfc]
    cases cutAddr a dc l 1 <;> rfl
  · obtain ⟨b, o, rfl, _⟩ := rs_sl g w hs 0 xs[0] (List.getElem?_eq_getElem (by omega))
    have hca : cutAddr (some ⟨b, o, none⟩) dc l 1 = some ⟨b, o + l, none⟩ := by
      unfold cutAddr
      rw [if_neg (by omega)]; simp [addr_add]
    rw [hca] at hx
    obtain ⟨_, ⟨e1, _⟩ | ⟨b', off, cap, L, E, e1, h1, h2, h3, hs'⟩⟩ := sl_iff.1 hs
    · cases e1
    · simp only [Value.slice.injEq, Option.some.injEq, Addr.mk.injEq] at e1
      obtain ⟨⟨rfl, rfl, _⟩, _, rfl⟩ := e1
      have hr2 : Rd (R * pt b (cl L E)) a2 ys := by
        rcases hr' with rfl | ⟨b2, o2, rfl, hc⟩
        · exact rd_nil
        · exact rd_cells fun i v hv g' w' hs2 => hc i v hv g' w' (sl_iff.2 ⟨hl, .inr ⟨b, o, dc, L, E, rfl, h1, h2, h3, hs2⟩⟩)
      obtain ⟨v, w', B, hr3, hB, rfl, rfl⟩ := o_copy (A := R * pt b (cl L E)) (dst := dst) (ty := ty) (pos := pos) (after := after) (gd := gd) hu hk hx hy hr2 hys hm (fun u hu => List.all_eq_true.1 ho u hu) (by omega) rfl upd_here g w hs'
      refine ⟨_, w', _, hr3, ?_, rfl, (hC _).symm⟩
      have hml : (ys.take m).length = m := by rw [List.length_take]; omega
      refine sl_iff.2 ⟨by rw [← he, splice_length]; exact hl, .inr ⟨b, o, dc, _, E, rfl, h1, by rw [splice_length]; exact h2, ?_, hB⟩⟩
      rw [← he]
      exact sl_splice h1 h2 h3 (by omega)

/-- copy into a block. -/
theorem o_cpB {t t' e : TypeId} {x y : Operand} {b off dl dc sl sc m : Nat} {a : Option Addr} {xs l l' : List Value} {E : TypeId} {A' : SP} (hx : ev n ρ x = .slice (some ⟨b, off, none⟩) dl dc) (hup : Upd A b (cl l E) (cl l' E) A') (hu : P.underlying t = some (.slice e)) (hk : szE P e = some 1)
    (hy : ev n ρ y = .slice a sl sc) (hr : Rs A a xs) (hxs : xs.length = sl) (hm : Nat.min sl dl = m) (ho : xs.all oneC = true) (hfit : off + m ≤ l.length)
    (hl' : splice l off (xs.take m) = l') :
    OpX P n ρ A ⟨dst, .call { callee := .builtin .copy, args := #[x, y], argTypes := #[t, t'] }, ty, pos, after, gd⟩ (fun v B => v = .int .i64 (m : Nat) ∧ B = A') := fun g w hs =>
  o_copy hu hk hx hy (hr.rd hs) hxs hm (fun u hu => List.all_eq_true.1 ho u hu) hfit hl' hup g w hs

/-! ### Regions that draw their order and act: what reads is taken first -/
/-- S holds all along. -/
def TH (P : Program) (n : Nat) (ops : Array Oper) (Q : Post) (S : SP) (fuel : Nat) (listed : Array Bool) (ρ : Env) (A : SP) : Prop :=
  ∀ g a w, Agr n ρ a → sat g w A → sat g w S → wpAnyH P .any ops (lift g n Q) (fun w => sat g w S) fuel listed a w
variable {Q : Post} {ops : Array Oper} {o : Oper} {S : SP}
theorem tc_regh {id : Nat} {l : List Oper} (hm : P.follows .mixedOrders = true) (hd : Dr A S) (h : TH P n l.toArray Q S l.length (Array.replicate l.length false) ρ A) : TC P n (.region id l.toArray true) Q ρ A := fun g a w ha hs =>
  have hs' : sat g { w with drawn := w.drawn + 1 } A := hs.draw rfl rfl rfl rfl
  have h1 := h g a { w with drawn := w.drawn + 1 } ha hs' (hd.sat _ _ hs')
  wp_region_held (S := fun w => sat g w S) hm (by simpa using h1)
theorem th_done {fuel : Nat} {listed : Array Bool} (hr : Region.ready .any ops listed = []) (h : Q .normal ρ A) : TH P n ops Q S fuel listed ρ A := fun g a w ha hs _ =>
  wpAnyH_done hr ⟨rfl, ρ, A, ha, hs, h⟩ fuel
/-- What yields wherever S holds is taken first. -/
theorem th_take {fuel i : Nat} {listed listed' : Array Bool} {v : Value} (hi : ops[i]? = some o) (hs' : Region.noSelect ops = true) (hf : Region.free .any ops listed i = true) (hr : (Region.ready .any ops listed).contains i = true)
    (hl : listed.setIfInBounds i true = listed') (hw : wantE n ops ρ o = true) (hv : OpV P n ρ S o v) (k : TH P n ops Q S fuel listed' (put ρ o.dst v) A) : TH P n ops Q S (fuel + 1) listed ρ A := fun g a w ha hs hS =>
  wpAnyH_take hi hs' hf hr (fun c a w h => absurd h.1 (by simp [okE])) (.inl ⟨by rw [want_eq ha, hw], fun w' h' => by
    rw [ha.eval]; exact hv g w' h'⟩) hS (by rw [hl]; exact k g _ w (ha.put _ _) hs hS)
theorem th_skip {fuel i : Nat} {listed listed' : Array Bool} (hi : ops[i]? = some o) (hs' : Region.noSelect ops = true) (hf : Region.free .any ops listed i = true) (hr : (Region.ready .any ops listed).contains i = true)
    (hl : listed.setIfInBounds i true = listed') (hw : wantE n ops ρ o = false) (k : TH P n ops Q S fuel listed' (put ρ o.dst undef) A) : TH P n ops Q S (fuel + 1) listed ρ A := fun g a w ha hs hS =>
  wpAnyH_take hi hs' hf hr (fun c a w h => absurd h.1 (by simp [okE])) (.inr ⟨by rw [want_eq ha, hw], rfl⟩) hS (by rw [hl]; exact k g _ w (ha.put _ _) hs hS)
/-- One operation, whichever is ready. -/
def OH (P : Program) (n : Nat) (ops : Array Oper) (Q : Post) (S : SP) (fuel i : Nat) (listed : Array Bool) (ρ : Env) (A : SP) : Prop :=
  ∀ g a w, Agr n ρ a → sat g w A → sat g w S → wpOp P ops (lift g n Q) i (fun a' w' => sat g w' S ∧ wpAnyH P .any ops (lift g n Q) (fun w => sat g w S) fuel (listed.setIfInBounds i true) a' w') a w
theorem th_all {fuel : Nat} {listed : Array Bool} {rs : List Nat} (hr : Region.ready .any ops listed = rs) (hne : rs ≠ []) (h : ∀ i ∈ rs, OH P n ops Q S fuel i listed ρ A) : TH P n ops Q S (fuel + 1) listed ρ A := fun g a w ha hs hS =>
  wpAnyH_all hr hne fun i hi => h i hi g a w ha hs hS
theorem th_one {fuel i : Nat} {listed : Array Bool} (hr : Region.ready .any ops listed = [i]) (h : OH P n ops Q S fuel i listed ρ A) : TH P n ops Q S (fuel + 1) listed ρ A := th_all hr (by simp) (by simpa using h)
theorem th_two {fuel i j : Nat} {listed : Array Bool} (hr : Region.ready .any ops listed = [i, j]) (h : OH P n ops Q S fuel i listed ρ A) (h' : OH P n ops Q S fuel j listed ρ A) : TH P n ops Q S (fuel + 1) listed ρ A :=
  th_all hr (by simp) (by simpa using ⟨h, h'⟩)
theorem th_three {fuel i j k : Nat} {listed : Array Bool} (hr : Region.ready .any ops listed = [i, j, k]) (h : OH P n ops Q S fuel i listed ρ A) (h' : OH P n ops Q S fuel j listed ρ A) (h'' : OH P n ops Q S fuel k listed ρ A) : TH P n ops Q S (fuel + 1) listed ρ A :=
  th_all hr (by simp) (by simpa using ⟨h, h', h''⟩)
section
variable {fuel i : Nat} {listed listed' : Array Bool}
theorem oh_skip (hi : ops[i]? = some o) (hl : listed.setIfInBounds i true = listed') (hw : wantE n ops ρ o = false) (k : TH P n ops Q S fuel listed' (put ρ o.dst undef) A) : OH P n ops Q S fuel i listed ρ A := fun g a w ha hs hS => by
  subst hl
  unfold wpOp
  simp only [hi, want_eq ha, hw]
  exact ⟨hS, k g _ w (ha.put _ _) hs hS⟩
theorem oh_v {v : Value} (hi : ops[i]? = some o) (hl : listed.setIfInBounds i true = listed') (hw : wantE n ops ρ o = true) (h : OpV P n ρ A o v) (k : TH P n ops Q S fuel listed' (put ρ o.dst v) A) : OH P n ops Q S fuel i listed ρ A := fun g a w ha hs hS => by
  subst hl
  unfold wpOp
  simp only [hi, want_eq ha, hw, if_true]
  refine .inl ?_
  unfold Oper.wp
  rw [ha.eval, h g w hs]
  exact ⟨hS, k g _ w (ha.put _ _) hs hS⟩
theorem oh_x {R : Value → SP → Prop} (hi : ops[i]? = some o) (hl : listed.setIfInBounds i true = listed') (hw : wantE n ops ρ o = true) (h : OpX P n ρ A o R) (k : ∀ v B, R v B → Dr B S ∧ TH P n ops Q S fuel listed' (put ρ o.dst v) B) : OH P n ops Q S fuel i listed ρ A := fun g a w ha hs hS => by
  subst hl
  unfold wpOp
  simp only [hi, want_eq ha, hw, if_true]
  refine .inl ?_
  unfold Oper.wp
  obtain ⟨v, w', B, hr, hb, hR⟩ := h g w hs
  rw [ha.eval, hr]
  obtain ⟨hd, k⟩ := k v B hR
  exact ⟨hd.sat _ _ hb, k g _ w' (ha.put _ _) hb (hd.sat _ _ hb)⟩
theorem oh_u {B : SP} (hi : ops[i]? = some o) (hl : listed.setIfInBounds i true = listed') (hw : wantE n ops ρ o = true) (h : OpU P n ρ A o B) (hd : Dr B S) (k : TH P n ops Q S fuel listed' (put ρ o.dst undef) B) : OH P n ops Q S fuel i listed ρ A := fun g a w ha hs hS => by
  subst hl
  unfold wpOp
  simp only [hi, want_eq ha, hw, if_true]
  refine .inl ?_
  unfold Oper.wp
  obtain ⟨w', hr, hb⟩ := h g w hs
  rw [ha.eval, hr]
  exact ⟨hd.sat _ _ hb, k g _ w' (ha.put _ _) hb (hd.sat _ _ hb)⟩
theorem oh_c {R : Value → SP → Prop} (hi : ops[i]? = some o) (hl : listed.setIfInBounds i true = listed') (hw : wantE n ops ρ o = true) (h : OpC P n ρ A o R) (k : ∀ v B, R v B → Dr B S ∧ TH P n ops Q S fuel listed' (put ρ o.dst v) B) : OH P n ops Q S fuel i listed ρ A := fun g a w ha hs hS => by
  subst hl
  unfold wpOp
  simp only [hi, want_eq ha, hw, if_true]
  refine .inl ?_
  unfold Oper.wp
  obtain ⟨f, args, w', hr, hc⟩ := h g w hs
  rw [ha.eval, hr]
  refine hc.mono fun e w'' ⟨v, B, he, hR, hb⟩ => ?_
  subst he
  obtain ⟨hd, k⟩ := k v B hR
  exact ⟨hd.sat _ _ hb, k g _ w'' (ha.put _ _) hb (hd.sat _ _ hb)⟩
end
theorem th_bool {fuel : Nat} {listed : Array Bool} {d : Nat} {b : Bool} (hv : ρ d = .bool b) (ht : b = true → TH P n ops Q S fuel listed (upd ρ d (.bool true)) A) (hf : b = false → TH P n ops Q S fuel listed (upd ρ d (.bool false)) A) : TH P n ops Q S fuel listed ρ A := by
  cases b with
  | true => have := ht rfl; rw [← env_set hv] at this; exact this
  | false => have := hf rfl; rw [← env_set hv] at this; exact this
theorem th_eq {fuel : Nat} {listed : Array Bool} {A' : SP} (k : A = A') (h : TH P n ops Q S fuel listed ρ A') : TH P n ops Q S fuel listed ρ A := k ▸ h
theorem th_pre {fuel : Nat} {listed : Array Bool} {A' : SP} (k : ∀ g w, sat g w A → sat g w A') (h : TH P n ops Q S fuel listed ρ A') : TH P n ops Q S fuel listed ρ A := fun g a w ha hs hS => h g a w ha (k g w hs) hS
theorem th_have {fuel : Nat} {listed : Array Bool} {p : Prop} (k : ∀ g w, sat g w A → p) (h : p → TH P n ops Q S fuel listed ρ A) : TH P n ops Q S fuel listed ρ A := fun g a w ha hs hS => h (k g w hs) g a w ha hs hS
theorem th_env {fuel : Nat} {listed : Array Bool} {d : Nat} {v : Value} (h : ρ d = v) (k : TH P n ops Q S fuel listed (upd ρ d v) A) : TH P n ops Q S fuel listed ρ A := by
  rw [← env_set h] at k; exact k
end

end Go.Vl
