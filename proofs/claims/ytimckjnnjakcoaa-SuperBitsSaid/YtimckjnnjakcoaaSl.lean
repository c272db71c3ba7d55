/- Slices over the calculus of XCore: what is read of one, one that is owned, append and copy. It names no program. Conditions: none. -/
import Derived.Test.YtimckjnnjakcoaaCall
set_option linter.unusedVariables false
set_option linter.unusedSimpArgs false
namespace Go.Vl
open Go

/-- Bytes, words and ints as cells. -/
def b8 (m : Nat) : Value := .int .u8 (m : Nat)
def w64 (m : Nat) : Value := .int .u64 (m : Nat)
def i64 (m : Int) : Value := .int .i64 m
def bys (xs : List Nat) : List Value := xs.map b8
def wds (xs : List Nat) : List Value := xs.map w64
def ints (xs : List Int) : List Value := xs.map i64

theorem bys_length (xs : List Nat) : (bys xs).length = xs.length := by simp [bys]
theorem wds_length (xs : List Nat) : (wds xs).length = xs.length := by simp [wds]
theorem ints_length (xs : List Int) : (ints xs).length = xs.length := by simp [ints]
theorem bys_at {xs : List Nat} {i : Nat} (h : i < xs.length) : (bys xs)[i]? = some (.int .u8 ((xs[i] : Nat) : Int)) := by simp [bys, h, b8]
theorem wds_at {xs : List Nat} {i : Nat} (h : i < xs.length) : (wds xs)[i]? = some (.int .u64 ((xs[i] : Nat) : Int)) := by simp [wds, h, w64]
theorem ints_at {xs : List Int} {i : Nat} (h : i < xs.length) : (ints xs)[i]? = some (.int .i64 xs[i]) := by simp [ints, h, i64]
theorem bys_append (xs ys : List Nat) : bys (xs ++ ys) = bys xs ++ bys ys := by simp [bys]
theorem bys_oneC {xs : List Nat} : ∀ u ∈ bys xs, oneC u = true := by intro u hu; simp [bys] at hu; obtain ⟨a, _, rfl⟩ := hu; rfl
theorem bys_all (xs : List Nat) : (bys xs).all oneC = true := by rw [List.all_eq_true]; exact fun u hu => by simp [bys] at hu; obtain ⟨a, _, rfl⟩ := hu; rfl
theorem wds_all (xs : List Nat) : (wds xs).all oneC = true := by rw [List.all_eq_true]; exact fun u hu => by simp [wds] at hu; obtain ⟨a, _, rfl⟩ := hu; rfl
theorem ints_all (xs : List Int) : (ints xs).all oneC = true := by rw [List.all_eq_true]; exact fun u hu => by simp [ints] at hu; obtain ⟨a, _, rfl⟩ := hu; rfl
theorem wds_oneC {xs : List Nat} : ∀ u ∈ wds xs, oneC u = true := by intro u hu; simp [wds] at hu; obtain ⟨a, _, rfl⟩ := hu; rfl
theorem ints_oneC {xs : List Int} : ∀ u ∈ ints xs, oneC u = true := by intro u hu; simp [ints] at hu; obtain ⟨a, _, rfl⟩ := hu; rfl

/-- The cell at that place, in every world of the assertion. -/
def Cell (A : SP) (b off : Nat) (v : Value) : Prop := ∀ g w, sat g w A → w.cell? ⟨b, off, none⟩ = some v

theorem cell_of_has {A : SP} {b i : Nat} {l : List Value} {E : TypeId} {v : Value} (h : Has A b (cl l E)) (hv : l[i]? = some v) : Cell A b i v := fun g w hs => by rw [cell_cl (h g w hs), hv]
theorem Cell.left {A X : SP} {b i : Nat} {v : Value} (h : Cell A b i v) : Cell (A * X) b i v := fun g w hs => h g w hs.left
theorem Cell.right {A X : SP} {b i : Nat} {v : Value} (h : Cell X b i v) : Cell (A * X) b i v := fun g w hs => h g w hs.right
theorem Cell.pre {A B : SP} {b i : Nat} {v : Value} (h : Cell A b i v) (k : ∀ g w, sat g w B → sat g w A) : Cell B b i v := fun g w hs => h g w (k g w hs)

/-- Cells in a row are these. -/
def Cells (A : SP) (b off : Nat) (xs : List Value) : Prop := ∀ i v, xs[i]? = some v → Cell A b (off + i) v

theorem cells_of_has {A : SP} {b off k : Nat} {l xs : List Value} {E : TypeId} (h : Has A b (cl l E)) (hx : (l.drop off).take k = xs) : Cells A b off xs := fun i v hv => by
  apply cell_of_has h
  rw [← hx, List.getElem?_take] at hv
  split at hv
  · rwa [List.getElem?_drop] at hv
  · cases hv
theorem Cells.left {A X : SP} {b i : Nat} {xs : List Value} (h : Cells A b i xs) : Cells (A * X) b i xs := fun j v hv => (h j v hv).left
theorem Cells.right {A X : SP} {b i : Nat} {xs : List Value} (h : Cells X b i xs) : Cells (A * X) b i xs := fun j v hv => (h j v hv).right
theorem Cells.pre {A B : SP} {b i : Nat} {xs : List Value} (h : Cells A b i xs) (k : ∀ g w, sat g w B → sat g w A) : Cells B b i xs := fun j v hv => (h j v hv).pre k
theorem Cells.sub {A : SP} {b off : Nat} {xs ys : List Value} (j k : Nat) (h : Cells A b off xs) (e : (xs.drop j).take k = ys) : Cells A b (off + j) ys := fun i v hv => by
  rw [← e, List.getElem?_take] at hv
  split at hv
  · rw [List.getElem?_drop] at hv
    have := h _ _ hv
    rwa [Nat.add_assoc]
  · cases hv

/-- What a slice's address reads. -/
def Rd (A : SP) (a : Option Addr) (xs : List Value) : Prop := xs = [] ∨ ∃ b off, a = some ⟨b, off, none⟩ ∧ Cells A b off xs

theorem Rd.left {A X : SP} {a : Option Addr} {xs : List Value} (h : Rd A a xs) : Rd (A * X) a xs := h.imp id fun ⟨b, off, e, hc⟩ => ⟨b, off, e, hc.left⟩
theorem Rd.right {A X : SP} {a : Option Addr} {xs : List Value} (h : Rd X a xs) : Rd (A * X) a xs := h.imp id fun ⟨b, off, e, hc⟩ => ⟨b, off, e, hc.right⟩
theorem Rd.pre {A B : SP} {a : Option Addr} {xs : List Value} (h : Rd A a xs) (k : ∀ g w, sat g w B → sat g w A) : Rd B a xs := h.imp id fun ⟨b, off, e, hc⟩ => ⟨b, off, e, hc.pre k⟩
theorem Rd.some {A : SP} {a : Option Addr} {xs : List Value} (h : Rd A a xs) (h0 : 0 < xs.length) : ∃ b off, a = some ⟨b, off, none⟩ ∧ Cells A b off xs := by
  rcases h with h | h
  · subst h; simp at h0
  · exact h
theorem rd_nil {A : SP} {a : Option Addr} : Rd A a [] := .inl rfl
theorem rd_cells {A : SP} {b off : Nat} {xs : List Value} (h : Cells A b off xs) : Rd A (some ⟨b, off, none⟩) xs := .inr ⟨b, off, rfl, h⟩

section
variable {P : Program} {n : Nat} {ρ : Env} {A : SP} {dst : Option Tmp} {ty : TypeId} {pos : String} {after : Array Edge} {gd : Option (Nat × Bool)}

theorem o_loadC {t : TypeId} {x : Operand} {b off : Nat} {v : Value} (hp : plainE P t = true) (hx : ev n ρ x = .pointer (some ⟨b, off, none⟩)) (hc : Cell A b off v) :
    OpV P n ρ A ⟨dst, .load t x, ty, pos, after, gd⟩ v := fun g w hs => by
  simp only [execOp, hx, Instr.loadAt, Instr.sureAddr]
  rw [run_bind (a := v) (w' := w)]
  · rfl
  rw [run_bind (w' := w) (a := (⟨b, off, none⟩ : Addr)) rfl]
  unfold loadVar
  rw [run_bind (run_isAgg_f hp)]
  exact run_load1 (hc g w hs)

theorem run_loadCellsC {A : SP} {g : Gh} {w : World} {b off k : Nat} {xs : List Value} (hc : Cells A b off xs) (hk : xs.length = k) (hs : sat g w A) : (loadCells ⟨b, off, none⟩ k).run P w = .ok xs.toArray w := by
  unfold loadCells
  rw [run_loadCellsFrom k 0 #[] xs (fun j hj => ?_) hk]
  · simp
  · have hj' : j < xs.length := by omega
    rw [List.getElem?_eq_getElem hj']
    exact hc j _ (List.getElem?_eq_getElem hj') g w hs

theorem o_loadNC {t : TypeId} {x : Operand} {b off k : Nat} {vs : List Value} (hp : aggE P t = true) (hk : szE P t = some k) (hx : ev n ρ x = .pointer (some ⟨b, off, none⟩)) (hl : vs.length = k) (hc : Cells A b off vs) :
    OpV P n ρ A ⟨dst, .load t x, ty, pos, after, gd⟩ (.agg vs.toArray) := fun g w hs => by
  simp only [execOp, hx, Instr.loadAt, Instr.sureAddr]
  rw [run_bind (a := .agg vs.toArray) (w' := w)]
  · rfl
  rw [run_bind (w' := w) (a := (⟨b, off, none⟩ : Addr)) rfl]
  unfold loadVar
  rw [run_bind (run_isAgg_t hp)]
  simp only [if_true]
  rw [run_bind (run_size hk), run_bind (run_loadCellsC hc hl hs)]
  rfl
end

/-! ## A slice that is owned, with its block -/

/-- v is a slice of n elements of k cells each, the cells xs; its whole block is owned. -/
def Sl (k : Nat) (v : Value) (n : Nat) (xs : List Value) : SP := fun h => xs.length = n * k ∧
  ((v = .slice none 0 0 ∧ n = 0 ∧ h = fun _ => none) ∨
   ∃ b off cap l E, v = .slice (some ⟨b, off, none⟩) n cap ∧ n ≤ cap ∧ off + cap * k ≤ l.length ∧ (l.drop off).take (n * k) = xs ∧ pt b (cl l E) h)

theorem sl_iff {k : Nat} {v : Value} {n : Nat} {xs : List Value} {R : SP} {g : Gh} {w : World} : sat g w (R * Sl k v n xs) ↔ xs.length = n * k ∧
    ((v = .slice none 0 0 ∧ n = 0 ∧ sat g w R) ∨
     ∃ b off cap l E, v = .slice (some ⟨b, off, none⟩) n cap ∧ n ≤ cap ∧ off + cap * k ≤ l.length ∧ (l.drop off).take (n * k) = xs ∧ sat g w (R * pt b (cl l E))) := by
  constructor
  · intro hs
    obtain ⟨_, ⟨x, y, hd, rfl, ha, hl, hb⟩, hx⟩ := hs.hp
    refine ⟨hl, ?_⟩
    rcases hb with ⟨e1, e2, e3⟩ | ⟨b, off, cap, l, E, e1, e2, e3, e4, e5⟩
    · exact .inl ⟨e1, e2, hs.left⟩
    · exact .inr ⟨b, off, cap, l, E, e1, e2, e3, e4, hs.os, hs.tape, hs.out, _, ⟨x, y, hd, rfl, ha, e5⟩, hx⟩
  · rintro ⟨hl, h | ⟨b, off, cap, l, E, e1, e2, e3, e4, hs⟩⟩
    · obtain ⟨e1, e2, hs⟩ := h
      rw [← star_emp R] at hs
      exact hs.mono fun h ⟨x, y, hd, e, ha, hb⟩ => ⟨x, y, hd, e, ha, hl, .inl ⟨e1, e2, hb⟩⟩
    · exact hs.mono fun h ⟨x, y, hd, e, ha, hb⟩ => ⟨x, y, hd, e, ha, hl, .inr ⟨b, off, cap, l, E, e1, e2, e3, e4, hb⟩⟩

theorem sl_len {k : Nat} {v : Value} {n : Nat} {xs : List Value} {R : SP} {g : Gh} {w : World} (hs : sat g w (R * Sl k v n xs)) : xs.length = n * k := (sl_iff.1 hs).1

/-- Its shape, and what it reads. -/
theorem sl_have {k : Nat} {v : Value} {n : Nat} {xs : List Value} {R : SP} {g : Gh} {w : World} (hs : sat g w (R * Sl k v n xs)) :
    ∃ a cap, v = .slice a n cap ∧ n ≤ cap ∧ xs.length = n * k ∧ Rd (R * Sl k v n xs) a xs := by
  obtain ⟨hl, ⟨e1, e2, _⟩ | ⟨b, off, cap, l, E, e1, e2, _⟩⟩ := sl_iff.1 hs
  · refine ⟨none, 0, by rw [e1, e2], by omega, hl, .inl ?_⟩
    rw [e2] at hl; simpa using hl
  · refine ⟨_, _, e1, e2, hl, rd_cells fun i u hu g' w' hs' => ?_⟩
    obtain ⟨hl', ⟨e1', _⟩ | ⟨b', off', cap', l', E', e1', _, _, e4', hs''⟩⟩ := sl_iff.1 hs'
    · rw [e1] at e1'; cases e1'
    · rw [e1] at e1'
      simp only [Value.slice.injEq, Option.some.injEq, Addr.mk.injEq] at e1'
      obtain ⟨⟨rfl, rfl, _⟩, _, rfl⟩ := e1'
      exact cells_of_has has_here e4' i u hu g' w' hs''

/-- A new block is an owned slice. -/
theorem sl_new {k b n cap : Nat} {l xs : List Value} {E : TypeId} {R : SP} {g : Gh} {w : World} (hs : sat g w (R * pt b (cl l E))) (h1 : n ≤ cap) (h2 : cap * k ≤ l.length) (h3 : l.take (n * k) = xs) :
    sat g w (R * Sl k (.slice (some ⟨b, 0, none⟩) n cap) n xs) :=
  sl_iff.2 ⟨by rw [← h3, List.length_take]; have : n * k ≤ cap * k := Nat.mul_le_mul_right k h1
               omega, .inr ⟨b, 0, cap, l, E, rfl, h1, by omega, by simpa using h3, hs⟩⟩

theorem sl_nil {k : Nat} {R : SP} {g : Gh} {w : World} (hs : sat g w R) : sat g w (R * Sl k (.slice none 0 0) 0 []) := sl_iff.2 ⟨by simp, .inl ⟨rfl, rfl, hs⟩⟩

theorem splice_all {l vs : List Value} (h : vs.length = l.length) : splice l 0 vs = vs := by
  rw [splice_eq (by omega)]; simp [h]

/-! ## append -/

section
variable {P : Program} {n : Nat} {ρ : Env} {A : SP} {dst : Option Tmp} {ty : TypeId} {pos : String} {after : Array Edge} {gd : Option (Nat × Bool)}

theorem run_firstCells {A : SP} {g : Gh} {w : World} {a : Option Addr} {xs : List Value} {k m len cap : Nat} (hr : Rd A a xs) (hm : xs.length = m * k) (hs : sat g w A) :
    (Builtin.firstCells k m (.slice a len cap)).run P w = .ok xs.toArray w := by
  rcases hr with rfl | ⟨b, off, rfl, hc⟩
  · have h0 : m * k = 0 := by simpa using hm.symm
    cases a with
    | none => rfl
    | some p => simp only [Builtin.firstCells, h0]; rfl
  · simp only [Builtin.firstCells]
    exact run_loadCellsC hc hm hs

theorem run_bytes' {P : Program} {w : World} {t : TypeId} {k : Nat} (h : bytesE P t = some k) {α : Type} {f : TypeInfo → Sem α} {r : Result α} (hf : ∀ i : TypeInfo, i.bytes = k → (f i).run P w = r) : (typeInfo t >>= f).run P w = r := by
  obtain ⟨i, hi, hb⟩ := run_bytes (w := w) h
  rw [run_bind hi]; exact hf i hb

theorem info_of {P : Program} {e : TypeId} {k bytes : Nat} {z : Value} (hk : szE P e = some k) (hb : bytesE P e = some bytes) (hz : zeroE P e = some z) : ∃ i, P.info? e = some i ∧ i.size = k ∧ i.bytes = bytes ∧ i.zero = some z := by
  unfold szE at hk; unfold bytesE at hb; unfold zeroE at hz
  cases hi : P.info? e with
  | none => rw [hi] at hk; cases hk
  | some i => rw [hi] at hk hb hz; exact ⟨i, rfl, by simpa using hk, by simpa using hb, by simpa using hz⟩

theorem o_appendG {t t' e e' : TypeId} {x y : Operand} {v z : Value} {m k q bytes c : Nat} {a : Option Addr} {xs ys : List Value} {R : SP}
    (hu : P.underlying t = some (.slice e)) (hu' : P.underlying t' = some (.slice e')) (hk : szE P e = some k) (hb : bytesE P e = some bytes) (hz : zeroE P e = some z) (hzk : z.cells.size = k) (hk0 : 0 < k) (hb0 : 0 < bytes)
    (hx : ev n ρ x = v) (hy : ev n ρ y = .slice a m c) (hA : A = R * Sl k v q xs) (hr : Rd A a ys) (hm : ys.length = m * k) (ho : ∀ u ∈ ys, oneC u = true) (hlim : (q + m) * bytes ≤ 140737488355328) :
    OpX P n ρ A ⟨dst, .call { callee := .builtin .append, args := #[x, y], argTypes := #[t, t'] }, ty, pos, after, gd⟩ (fun v' B => (∃ a' c', v = .slice a' q c' ∧ v' = .slice a' (q + m) c' ∧ q + m ≤ c' ∧ B = R * Sl k v' (q + m) (xs ++ ys)) ∨ B = R * Sl k v q xs * Sl k v' (q + m) (xs ++ ys)) := fun g w hs => by
  have hs0 := hs
  rw [hA] at hs0
  obtain ⟨hl, hcase⟩ := sl_iff.1 hs0
  obtain ⟨aa, cap, hv, hqc, _, hrd⟩ := sl_have hs0
  -- the run, but for the operation itself
  have key : ∀ (r : Value) (w' : World), (Builtin.append_ #[t, t'] ty #[v, .slice a m c]).run P w = .ok r w' →
      (execOp (ev n ρ) ⟨dst, .call { callee := .builtin .append, args := #[x, y], argTypes := #[t, t'] }, ty, pos, after, gd⟩).run P w = .ok (.value r) w' := fun r w' h => by
    simp only [execOp, resolve, List.map_toArray, List.map_cons, List.map_nil, hx, hy]
    rw [run_bind (w' := w) (a := ⟨.builtin .append #[t, t'] ty _, #[v, .slice a m c]⟩) (by rfl)]
    simp only [invoke, builtin]
    rw [run_bind h]; rfl
  have hold : (Builtin.firstCells k q (.slice aa q cap)).run P w = .ok xs.toArray w := run_firstCells hrd hl hs0
  have hnew : ∀ w' : World, sat g w' A → (Builtin.firstCells k m (.slice a m c)).run P w' = .ok ys.toArray w' := fun w' h => run_firstCells hr hm h
  subst hv
  obtain ⟨i, hi, hi1, hi2, hi3⟩ := info_of hk hb hz
  by_cases hroom : q + m ≤ cap
  · -- there is room
    rcases hcase with ⟨e1, e2, hsR⟩ | ⟨b, off, cap', l, E, e1, e2, e3, e4, hsR⟩
    · simp only [Value.slice.injEq] at e1
      obtain ⟨rfl, rfl, rfl⟩ := e1
      have hm0 : m = 0 := by omega
      subst hm0
      have hy0 : ys = [] := by simpa using hm
      subst hy0
      refine ⟨.slice none 0 0, w, _, key _ _ ?_, ?_, .inl ⟨none, 0, rfl, rfl, by omega, rfl⟩⟩
      · have hn := hnew w hs
        simp [Builtin.append_, run_underlying hu, run_underlying hu', sizeOf, typeInfo, hi, hi1, Builtin.lenOf, hn]
      · rw [List.append_nil]; exact hs0
    · simp only [Value.slice.injEq] at e1
      obtain ⟨rfl, _, rfl⟩ := e1
      have hlen : off + q * k + ys.length ≤ l.length := by
        have : (q + m) * k ≤ cap * k := Nat.mul_le_mul_right k hroom
        rw [Nat.add_mul] at this
        omega
      obtain ⟨w', hst, hh, g1, g2, g3⟩ := run_storeCells (P := P) (off := off + q * k) ys 0 l w (has_here g w hsR) (by omega) ho
      refine ⟨.slice (some ⟨b, off, none⟩) (q + m) cap, w', _, key _ _ ?_, ?_, .inl ⟨_, _, rfl, rfl, hroom, rfl⟩⟩
      · have hn := hnew w hs
        simp [Builtin.append_, run_underlying hu, run_underlying hu', sizeOf, typeInfo, hi, hi1, Builtin.lenOf, hn, hroom, addr_add, hst]
      · have hu2 : Upd (R * pt b (cl l E)) b (cl l E) (cl (splice l (off + q * k) ys) E) (R * pt b (cl (splice l (off + q * k) ys) E)) := upd_here
        have hs2 := hu2.sat hsR (fun j => by rw [hh j]; rfl) g1 g2 g3
        refine sl_iff.2 ⟨by rw [List.length_append, hl, hm, Nat.add_mul], .inr ⟨b, off, cap, _, E, rfl, hroom, by rw [splice_length]; exact e3, ?_, hs2⟩⟩
        apply List.ext_getElem?
        intro i
        rw [List.getElem?_take, List.getElem?_append, List.getElem?_drop, splice_getElem? _ _ _ _ hlen, Nat.add_mul, ← hm, ← hl]
        have hx' : ∀ i, i < xs.length → l[off + i]? = xs[i]? := fun i hi => by
          rw [← e4, List.getElem?_take, if_pos (by rw [← hl]; exact hi), List.getElem?_drop]
        by_cases h1 : i < xs.length
        · rw [if_pos (by omega), if_neg (by omega), if_pos h1, hx' i h1]
        · by_cases h2 : i < xs.length + ys.length
          · rw [if_pos h2, if_pos (by omega), if_neg h1]; congr 1; omega
          · rw [if_neg h2, if_neg h1, List.getElem?_eq_none (by omega)]
  · -- it grows
    have hbig : cap < q + m := by omega
    have hfit := growslice_fits hbig hlim
    have p48 : (2 : Nat) ^ 48 = 281474976710656 := by decide
    let cut := (Question.appendCap (q + m) cap e).cut (w.tape w.drawn (.appendCap (q + m) cap e))
    have hcut : q + m ≤ cut := by show q + m ≤ (q + m) + _; omega
    let wd : World := { w with drawn := w.drawn + 1 }
    have hsd : sat g wd A := hs.draw rfl rfl rfl rfl
    have hsd0 : sat g wd (R * Sl k (.slice aa q cap) q xs) := hA ▸ hsd
    have hold' : (Builtin.firstCells k q (.slice aa q cap)).run P wd = .ok xs.toArray wd := run_firstCells hrd hl hsd0
    let rest := Builtin.zeroCells z.cells (cut - (q + m))
    have hrest : rest.size = (cut - (q + m)) * k := by show (Builtin.zeroCells z.cells (cut - (q + m))).size = _; rw [size_zeroCells, hzk]
    let cs := xs ++ ys ++ rest.toList
    have hcs : xs.toArray ++ ys.toArray ++ rest = cs.toArray := by apply Array.ext'; simp [cs]
    refine ⟨.slice (some ⟨w.heap.size, 0, none⟩) (q + m) cut, wd.alloc (cl cs e), _, key _ _ ?_, ?_, .inr rfl⟩
    · have hn := hnew wd hsd
      have h63 : ¬ (9223372036854775807 < ((q : Int) + (m : Int))) := by
        have : (q + m) * 1 ≤ (q + m) * bytes := Nat.mul_le_mul_left _ hb0
        omega
      have hfit' : ¬ (281474976710656 < Builtin.nextslicecap (q + m) cap * i.bytes) := by rw [hi2]; omega
      have hwd : w.drew = wd := rfl
      have hcut' : (Question.appendCap (q + m) cap e).cut (w.tape w.drawn (.appendCap (q + m) cap e)) = cut := rfl
      have hrow : wd.alloc (.cells (xs.toArray ++ ys.toArray ++ Builtin.zeroCells z.cells (cut - (q + m))) e) = wd.alloc (cl cs e) := congrArg (fun c => wd.alloc (.cells c e)) hcs
      have hsz : wd.heap.size = w.heap.size := rfl
      rw [← hrow]
      simp [Builtin.append_, run_underlying hu, run_underlying hu', sizeOf, typeInfo, zeroValue, hi, hi1, hi3, Builtin.lenOf, hroom, h63, hfit', Question.forced, hwd, hold', hn, hcut', newRow, hsz]
      congr 2; apply Array.ext'; simp
    · have := hsd0.alloc (cl cs e)
      refine sl_new this hcut ?_ ?_
      · simp only [cs, List.length_append, Array.length_toList, hrest, hl, hm, ← Nat.add_mul]
        rw [Nat.add_sub_cancel' hcut]; exact Nat.le_refl _
      · have : (q + m) * k = (xs ++ ys).length := by rw [List.length_append, hl, hm, Nat.add_mul]
        rw [this]
        show List.take _ ((xs ++ ys) ++ _) = _
        rw [List.take_left]
theorem o_append {t t' e e' : TypeId} {x y : Operand} {v z : Value} {m k q bytes c : Nat} {a : Option Addr} {xs ys : List Value} {R : SP}
    (hu : P.underlying t = some (.slice e)) (hu' : P.underlying t' = some (.slice e')) (hk : szE P e = some k) (hb : bytesE P e = some bytes) (hz : zeroE P e = some z) (hzk : z.cells.size = k) (hk0 : 0 < k) (hb0 : 0 < bytes)
    (hx : ev n ρ x = v) (hy : ev n ρ y = .slice a m c) (hA : A = R * Sl k v q xs) (hr : Rd A a ys) (hm : ys.length = m * k) (ho : ∀ u ∈ ys, oneC u = true) (hlim : (q + m) * bytes ≤ 140737488355328) :
    OpX P n ρ A ⟨dst, .call { callee := .builtin .append, args := #[x, y], argTypes := #[t, t'] }, ty, pos, after, gd⟩ (fun v' B => B = R * Sl k v' (q + m) (xs ++ ys)) := fun g w hs => by
  obtain ⟨v', w', B, h1, h2, ⟨_, _, _, _, _, rfl⟩ | rfl⟩ := o_appendG (dst := dst) (ty := ty) (pos := pos) (after := after) (gd := gd) hu hu' hk hb hz hzk hk0 hb0 hx hy hA hr hm ho hlim g w hs
  · exact ⟨v', w', _, h1, h2, rfl⟩
  · refine ⟨v', w', _, h1, ?_, rfl⟩
    rw [star_assoc, star_comm (Sl k v q xs), ← star_assoc] at h2
    exact h2.left
theorem fold_splice (l : List Value) : ∀ (off j : Nat) (init : List Value),
    ((l.zipIdx j).foldl (fun (cs : Array Value) (p : Value × Nat) => cs.setIfInBounds (off + p.2) p.1) init.toArray) = (splice init (off + j) l).toArray := by
  induction l with
  | nil => intro off j init; rfl
  | cons v l ih =>
    intro off j init
    simp only [List.zipIdx_cons, List.foldl_cons, splice, List.setIfInBounds_toArray]
    rw [ih]; rfl

/-- Parts, one behind the other. -/
theorem fill_seq {k : Nat} : ∀ (vs : List Value) (i : Nat) (init : List Value), (∀ v ∈ vs, v.cells.size = k) → (i + vs.length) * k ≤ init.length →
    Instr.fill (fun i => some (i * k, k)) init.toArray ((vs.zipIdx i).map fun p => (p.2, p.1)) = some (splice init (i * k) (vs.flatMap fun v => v.cells.toList)).toArray
  | [], i, init, _, _ => rfl
  | v :: vs, i, init, h, hl => by
    have hv := h v (by simp)
    have hle : (i + 1) * k ≤ (i + (vs.length + 1)) * k := Nat.mul_le_mul_right k (by omega)
    rw [List.length_cons] at hl
    have hlen : i * k + k ≤ init.length := by rw [Nat.add_mul, Nat.one_mul] at hle; omega
    simp only [List.zipIdx_cons, List.map_cons, Instr.fill, List.flatMap_cons]
    rw [if_neg (by simp [hv]; omega)]
    have hz : v.cells.zipIdx.foldl (fun (cs : Array Value) (x : Value × Nat) => match x with | (c, j) => cs.setIfInBounds (i * k + j) c) init.toArray = (splice init (i * k) v.cells.toList).toArray := by
      have := fold_splice v.cells.toList (i * k) 0 init
      rw [Nat.add_zero] at this
      rw [← this, ← Array.foldl_toList, Array.toList_zipIdx]
    have hl' : (i + 1 + vs.length) * k ≤ (splice init (i * k) v.cells.toList).length := by
      rw [splice_length]
      have : i + 1 + vs.length = i + (vs.length + 1) := by omega
      rw [this]; exact hl
    rw [hz, fill_seq vs (i + 1) _ (fun u hu => h u (by simp [hu])) hl']
    have happ : ∀ (a b : List Value) (l : List Value) (o : Nat), splice l o (a ++ b) = splice (splice l o a) (o + a.length) b := by
      intro a
      induction a with
      | nil => intro b l o; rfl
      | cons x a ih => intro b l o; simp only [List.cons_append, splice, ih, List.length_cons]; congr 1; omega
    rw [happ, Array.length_toList, hv, Nat.add_mul, Nat.one_mul]

/-- A struct's cells, part by part. -/
def bld (places : List (Nat × Nat)) : List Value → List (Nat × Value) → Option (List Value)
  | l, [] => some l
  | l, (i, v) :: rest => match places[i]? with
    | none => none
    | some (off, sz) => bif Nat.beq v.cells.toList.length sz && Nat.ble (off + sz) l.length then bld places (splice l off v.cells.toList) rest else none

theorem fill_bld {places : List (Nat × Nat)} : ∀ (vs : List (Nat × Value)) (l r : List Value), bld places l vs = some r → Instr.fill (fun i : Nat => places[i]?) l.toArray vs = some r.toArray
  | [], l, r, h => by simp only [bld, Option.some.injEq] at h; subst h; rfl
  | (i, v) :: vs, l, r, h => by
    simp only [bld] at h
    simp only [Instr.fill]
    cases hp : places[i]? with
    | none => rw [hp] at h; cases h
    | some p =>
      obtain ⟨off, sz⟩ := p
      rw [hp] at h
      simp only [] at h ⊢
      cases hb : (Nat.beq v.cells.toList.length sz && Nat.ble (off + sz) l.length) with
      | false => rw [hb] at h; cases h
      | true =>
        rw [hb] at h
        simp only [cond_true] at h
        simp only [Bool.and_eq_true] at hb
        have h1 : v.cells.size = sz := by rw [← Array.length_toList]; exact Nat.eq_of_beq_eq_true hb.1
        have h2 : off + sz ≤ l.length := Nat.le_of_ble_eq_true hb.2
        rw [if_neg (by simp [h1]; omega)]
        have hz : v.cells.zipIdx.foldl (fun (cs : Array Value) (x : Value × Nat) => match x with | (c, j) => cs.setIfInBounds (off + j) c) l.toArray = (splice l off v.cells.toList).toArray := by
          have := fold_splice v.cells.toList off 0 l
          rw [Nat.add_zero] at this
          rw [← this, ← Array.foldl_toList, Array.toList_zipIdx]
        rw [hz]
        exact fill_bld vs _ r h

theorem o_buildS {t : TypeId} {fs : Array Field} {places : List (Nat × Nat)} {z l : List Value} {parts : Array (Nat × Operand)} {vs : List (Nat × Value)} (hu : P.underlying t = some (.struct fs)) (hz : zeroE P t = some (.agg z.toArray))
    (hp : ∀ w, (fs.mapM fun f => do pure (f.offset, ← sizeOf f.type) : Sem (Array (Nat × Nat))).run P w = .ok places.toArray w) (hx : parts.toList.map (fun p => (p.1, ev n ρ p.2)) = vs)
    (hf : bld places z vs = some l) : OpV P n ρ A ⟨dst, .build t parts, ty, pos, after, gd⟩ (.agg l.toArray) := o_buildStruct hu hz hp hx (fill_bld vs z l hf)

/-- An array of parts of one cell, told one behind the other. -/
theorem o_buildA {t e : TypeId} {len : Nat} {z : List Value} {parts : Array (Nat × Operand)} {vs : List Value} (hu : P.underlying t = some (.array len e)) (hk : szE P e = some 1) (hz : zeroE P t = some (.agg z.toArray)) (hzl : z.length = len)
    (hn : parts.toList.map (·.1) = List.range' 0 vs.length) (hx : parts.toList.map (fun p => ev n ρ p.2) = vs) (hle : vs.length ≤ len) (hc : vs.all oneC = true) :
    OpV P n ρ A ⟨dst, .build t parts, ty, pos, after, gd⟩ (.agg (splice z 0 vs).toArray) := by
  have hcells : ∀ v ∈ vs, v.cells = #[v] := fun v hv => by
    have := List.all_eq_true.1 hc v hv
    cases v <;> first | (simp [oneC] at this; done) | rfl
  refine o_build (vs := (vs.zipIdx 0).map fun p => (p.2, p.1)) ?_ fun w => ?_
  · apply List.ext_getElem?
    intro i
    rw [List.getElem?_map, List.getElem?_map, List.getElem?_zipIdx]
    cases hp : parts.toList[i]? with
    | none =>
      have : vs[i]? = none := by rw [← hx, List.getElem?_map, hp]; rfl
      simp [this]
    | some p =>
      have h0 : vs[i]? = some (ev n ρ p.2) := by rw [← hx, List.getElem?_map, hp]; rfl
      have h1 : (parts.toList.map (·.1))[i]? = some p.1 := by rw [List.getElem?_map, hp]; rfl
      rw [hn] at h1
      have h2 : p.1 = i := by
        obtain ⟨hb, he⟩ := List.getElem?_eq_some_iff.1 h1
        rw [List.getElem_range'] at he; omega
      simp [h2, h0]
  · unfold Instr.build
    rw [run_bind (run_zeroV hz)]
    simp only [Value.cells]
    rw [run_bind (run_und hu)]
    simp only []
    rw [run_bind (run_size hk)]
    have := fill_seq (k := 1) vs 0 z (fun v hv => by rw [hcells v hv]; rfl) (by omega)
    rw [this]
    have hf : (vs.flatMap fun v => v.cells.toList) = vs := by
      have : ∀ us : List Value, (∀ v ∈ us, v.cells = #[v]) → (us.flatMap fun v => v.cells.toList) = us := by
        intro us
        induction us with
        | nil => intro _; rfl
        | cons u us ih => intro h; rw [List.flatMap_cons, h u (by simp), ih fun v hv => h v (by simp [hv])]; rfl
      exact this vs hcells
    rw [hf]
    rfl

/-- A slice of parts that are told one behind the other. -/
theorem o_buildSliceL {t e : TypeId} {len k : Nat} {z : Value} {parts : Array (Nat × Operand)} {vs l : List Value} (hu : P.underlying t = some (.slice e)) (hk : szE P e = some k) (hz : zeroE P e = some z)
    (hn : parts.toList.map (·.1) = List.range' 0 len) (hx : parts.toList.map (fun p => ev n ρ p.2) = vs) (hle : len * k ≤ 16777216) (hpos : len * k ≠ 0) (hc : ∀ v ∈ vs, v.cells.size = k) (hl : (vs.flatMap fun v => v.cells.toList) = l) :
    OpX P n ρ A ⟨dst, .buildSlice t len parts, ty, pos, after, gd⟩ (NewS A l e len len) := by
  have hlen : vs.length = len := by
    rw [← hx, List.length_map]
    have := congrArg List.length hn
    simpa using this
  refine o_buildSlice (vs := (vs.zipIdx 0).map fun p => (p.2, p.1)) hu hk hz ?_ hle hpos ?_
  · apply List.ext_getElem?
    intro i
    rw [List.getElem?_map, List.getElem?_map, List.getElem?_zipIdx, ← hx, List.getElem?_map]
    cases hp : parts.toList[i]? with
    | none => simp
    | some p =>
      have h1 : (parts.toList.map (·.1))[i]? = some p.1 := by rw [List.getElem?_map, hp]; rfl
      rw [hn] at h1
      have h2 : p.1 = i := by
        have := List.getElem?_eq_some_iff.1 h1
        obtain ⟨hb, he⟩ := this
        rw [List.getElem_range'] at he; omega
      simp [h2]
  · have hrow : ((Array.range (len * k)).map fun x => z.cells[x % z.cells.size]!) = ((List.range (len * k)).map fun x => z.cells[x % z.cells.size]!).toArray := by
      apply Array.ext'; simp
    rw [hrow, fill_seq vs 0 _ hc (by simp [hlen])]
    have hfl : ∀ us : List Value, (∀ v ∈ us, v.cells.size = k) → (us.flatMap fun v => v.cells.toList).length = us.length * k := by
      intro us
      induction us with
      | nil => intro _; simp
      | cons u us ih => intro h; rw [List.flatMap_cons, List.length_append, ih fun v hv => h v (by simp [hv]), Array.length_toList, h u (by simp), List.length_cons, Nat.add_mul]; omega
    have hsz : (vs.flatMap fun v => v.cells.toList).length = len * k := by rw [hfl vs hc, hlen]
    rw [hl] at *
    congr 2
    rw [splice_eq (by simp [hsz])]
    simp [hsz]

/-- A slice of one part of one cell. -/
theorem o_buildSlice1 {t e : TypeId} {x : Operand} {z v : Value} (hu : P.underlying t = some (.slice e)) (hk : szE P e = some 1) (hz : zeroE P e = some z) (hx : ev n ρ x = v) (ho : oneC v = true) :
    OpX P n ρ A ⟨dst, .buildSlice t 1 #[(0, x)], ty, pos, after, gd⟩ (NewS A [v] e 1 1) :=
  have hc : v.cells = #[v] := by cases v <;> first | (simp [oneC] at ho; done) | rfl
  o_buildSliceL (vs := [v]) hu hk hz rfl (by simp [hx]) (by decide) (by decide) (by simp [hc]) (by simp [hc])
/-- A slice of one part of k cells. -/
theorem o_buildSliceK {t e : TypeId} {k : Nat} {x : Operand} {z : Value} {l : List Value} (hu : P.underlying t = some (.slice e)) (hk : szE P e = some k) (hz : zeroE P e = some z) (hx : ev n ρ x = .agg l.toArray) (hl : l.length = k) (h0 : k ≠ 0 ∧ k ≤ 16777216) :
    OpX P n ρ A ⟨dst, .buildSlice t 1 #[(0, x)], ty, pos, after, gd⟩ (NewS A l e 1 1) :=
  o_buildSliceL (vs := [.agg l.toArray]) hu hk hz rfl (by simp [hx]) (by omega) (by omega) (by simp [Value.cells, hl]) (by simp [Value.cells])

theorem o_buildSlice0 {t e : TypeId} {k : Nat} {parts : Array (Nat × Operand)} (hu : P.underlying t = some (.slice e)) (hk : szE P e = some k) (hx : parts.toList.map (fun p => (p.1, ev n ρ p.2)) = []) :
    OpX P n ρ A ⟨dst, .buildSlice t 0 parts, ty, pos, after, gd⟩ (NewS A [] e 0 0) := fun g w hs => by
  refine ⟨_, w.alloc (cl [] e), _, ?_, hs.alloc _, w.heap.size, rfl, rfl⟩
  have he : parts.map (fun p => (p.1, ev n ρ p.2)) = #[] := Array.ext' (by rw [Array.toList_map, hx])
  simp only [execOp]
  rw [run_bind (a := .slice (some ⟨w.heap.size, 0, none⟩) 0 0) (w' := w.alloc (cl [] e))]
  · rfl
  show (Instr.buildSlice t 0 (parts.map fun p => (p.1, ev n ρ p.2))).run P w = _
  rw [he]
  unfold Instr.buildSlice
  rw [run_bind (run_und hu)]
  simp only []
  rw [run_bind (run_size hk)]
  simp only [Nat.zero_mul]
  rw [if_neg (by decide)]
  simp only [if_true]
  rw [run_bind (a := #[]) (w' := w) rfl]
  have hf : Instr.fill (fun i => some (i * k, k)) (Array.map (fun x => (#[] : Array Value)[x % (#[] : Array Value).size]!) (Array.range 0)) [] = some ([] : List Value).toArray := by simp [Instr.fill]
  simp only [hf]
  rw [run_bind run_newRow]
  rfl

/-- copy between slices of cells. -/
theorem o_copy {t t' e : TypeId} {x y : Operand} {b off dl dc sl sc m : Nat} {a : Option Addr} {xs l l' : List Value} {E : TypeId} {A' : SP} (hu : P.underlying t = some (.slice e)) (hk : szE P e = some 1)
    (hx : ev n ρ x = .slice (some ⟨b, off, none⟩) dl dc) (hy : ev n ρ y = .slice a sl sc) (hr : Rd A a xs) (hxs : xs.length = sl) (hm : Nat.min sl dl = m) (ho : ∀ u ∈ xs, oneC u = true) (hfit : off + m ≤ l.length)
    (hl' : splice l off (xs.take m) = l') (hup : Upd A b (cl l E) (cl l' E) A') :
    OpX P n ρ A ⟨dst, .call { callee := .builtin .copy, args := #[x, y], argTypes := #[t, t'] }, ty, pos, after, gd⟩ (fun v B => v = .int .i64 (m : Nat) ∧ B = A') := fun g w hs => by
  have hms : m ≤ sl := by rw [← hm]; exact Nat.min_le_left _ _
  have hml : (xs.take m).length = m := by rw [List.length_take]; omega
  obtain ⟨w', hst, hh, g1, g2, g3⟩ := run_storeCells (P := P) (off := off) (xs.take m) 0 l w (hup.has g w hs) (by omega) (fun u hu => ho u (List.mem_of_mem_take hu))
  refine ⟨_, w', A', ?_, hup.sat hs (fun j => by rw [hh j, ← hl']; rfl) g1 g2 g3, rfl, rfl⟩
  have hfc : (Builtin.firstCells 1 m (.slice a sl sc)).run P w = .ok (xs.take m).toArray w := by
    have hr' : Rd A a (xs.take m) := by
      rcases hr with rfl | ⟨b', off', e, hc⟩
      · exact .inl (by simp)
      · refine .inr ⟨b', off', e, ?_⟩
        have := hc.sub 0 m (ys := xs.take m) (by simp)
        rwa [Nat.add_zero] at this
    exact run_firstCells hr' (by rw [hml, Nat.mul_one]) hs
  simp only [execOp, resolve, List.map_toArray, List.map_cons, List.map_nil, hx, hy]
  rw [run_bind (w' := w) (a := ⟨.builtin .copy #[t, t'] ty _, #[.slice (some ⟨b, off, none⟩) dl dc, .slice a sl sc]⟩) (by rfl)]
  simp only [invoke, builtin]
  rw [run_bind (w' := w') (a := .int .i64 (m : Nat))]
  · rfl
  unfold Builtin.copy_
  simp only [List.getElem?_toArray, List.getElem?_cons_zero, List.getElem?_cons_succ]
  rw [run_bind (run_und hu)]
  simp only [Builtin.lenOf]
  rw [run_bind (a := sl) (w' := w) rfl, run_bind (run_size hk), hm, run_bind hfc]
  simp only []
  rw [run_bind hst]
  rfl
theorem sat.drop2 {g : Gh} {w : World} {R X Y : SP} (h : sat g w (R * X * Y)) : sat g w (R * Y) := by
  rw [star_swap] at h; exact h.left

/-- append of what a block of its own holds; that block is let go. -/
theorem o_append1 {t t' e e' : TypeId} {x y : Operand} {v z : Value} {m k q bytes c b : Nat} {xs ys : List Value} {R : SP} {E : TypeId}
    (hu : P.underlying t = some (.slice e)) (hu' : P.underlying t' = some (.slice e')) (hk : szE P e = some k) (hb : bytesE P e = some bytes) (hz : zeroE P e = some z) (hzk : z.cells.size = k) (hk0 : 0 < k) (hb0 : 0 < bytes)
    (hx : ev n ρ x = v) (hy : ev n ρ y = .slice (some ⟨b, 0, none⟩) m c) (hA : A = R * Sl k v q xs * pt b (cl ys E)) (hm : ys.length = m * k) (ho : ys.all oneC = true) (hlim : (q + m) * bytes ≤ 140737488355328) :
    OpX P n ρ A ⟨dst, .call { callee := .builtin .append, args := #[x, y], argTypes := #[t, t'] }, ty, pos, after, gd⟩ (fun v' B => B = R * Sl k v' (q + m) (xs ++ ys)) := fun g w hs => by
  obtain ⟨v', w', B, hr, hB, rfl⟩ := o_append (dst := dst) (ty := ty) (pos := pos) (after := after) (gd := gd) hu hu' hk hb hz hzk hk0 hb0 hx hy (R := R * pt b (cl ys E)) (by rw [hA, star_swap])
    (rd_cells (cells_of_has (k := ys.length) (by rw [hA]; exact has_here) (by simp))) hm (fun u hu => by simpa using (List.all_eq_true.1 ho) u hu) hlim g w hs
  exact ⟨v', w', _, hr, hB.drop2, rfl⟩

/-- append of what is read somewhere. -/
theorem o_append2 {t t' e e' : TypeId} {x y : Operand} {v z : Value} {m k q bytes c : Nat} {a : Option Addr} {xs ys : List Value} {R : SP}
    (hu : P.underlying t = some (.slice e)) (hu' : P.underlying t' = some (.slice e')) (hk : szE P e = some k) (hb : bytesE P e = some bytes) (hz : zeroE P e = some z) (hzk : z.cells.size = k) (hk0 : 0 < k) (hb0 : 0 < bytes)
    (hx : ev n ρ x = v) (hy : ev n ρ y = .slice a m c) (hA : A = R * Sl k v q xs) (hr : Rd A a ys) (hm : ys.length = m * k) (ho : ys.all oneC = true) (hlim : (q + m) * bytes ≤ 140737488355328) :
    OpX P n ρ A ⟨dst, .call { callee := .builtin .append, args := #[x, y], argTypes := #[t, t'] }, ty, pos, after, gd⟩ (fun v' B => B = R * Sl k v' (q + m) (xs ++ ys)) := fun g w hs => by
  obtain ⟨v', w', B, hr, hB, rfl⟩ := o_append (dst := dst) (ty := ty) (pos := pos) (after := after) (gd := gd) hu hu' hk hb hz hzk hk0 hb0 hx hy hA hr hm (fun u hu => by simpa using (List.all_eq_true.1 ho) u hu) hlim g w hs
  exact ⟨v', w', _, hr, hB, rfl⟩
end
end Go.Vl
