/- A slice and what it was grown to by append: within one block, or apart. Conditions: none. -/
import Derived.Test.YtimckjnnjakcoaaFoc
set_option linter.unusedVariables false
set_option linter.unusedSimpArgs false
namespace Go.Vl
open Go Go.Proofs


/-- A slice v of n elements, and what it was grown to, v', of m: within one block, or apart. -/
def Gr (v : Value) (n : Nat) (xs : List Value) (v' : Value) (m : Nat) (ys : List Value) : SP := fun h =>
  (∃ a c, v = .slice a n c ∧ v' = .slice a m c ∧ n ≤ m ∧ xs = ys.take n ∧ Sl 1 v' m ys h) ∨ (Sl 1 v n xs * Sl 1 v' m ys) h
theorem gr_iff {v v' : Value} {n m : Nat} {xs ys : List Value} {R : SP} {g : Gh} {w : World} : sat g w (R * Gr v n xs v' m ys) ↔
    (∃ a c, v = .slice a n c ∧ v' = .slice a m c ∧ n ≤ m ∧ xs = ys.take n ∧ sat g w (R * Sl 1 v' m ys)) ∨ sat g w (R * Sl 1 v n xs * Sl 1 v' m ys) := by
  constructor
  · intro hs
    obtain ⟨_, ⟨x, y, hd, rfl, ha, hb⟩, hx⟩ := hs.hp
    rcases hb with ⟨a, c, e1, e2, e3, e4, e5⟩ | hb
    · exact .inl ⟨a, c, e1, e2, e3, e4, hs.os, hs.tape, hs.out, _, ⟨x, y, hd, rfl, ha, e5⟩, hx⟩
    · exact .inr (by rw [star_assoc]; exact ⟨hs.os, hs.tape, hs.out, _, ⟨x, y, hd, rfl, ha, hb⟩, hx⟩)
  · rintro (⟨a, c, e1, e2, e3, e4, hs⟩ | hs)
    · exact hs.mono fun h ⟨x, y, hd, e, ha, hb⟩ => ⟨x, y, hd, e, ha, .inl ⟨a, c, e1, e2, e3, e4, hb⟩⟩
    · rw [star_assoc] at hs
      exact hs.mono fun h ⟨x, y, hd, e, ha, hb⟩ => ⟨x, y, hd, e, ha, .inr hb⟩
theorem gr_same {v : Value} {n : Nat} {xs : List Value} {R : SP} {g : Gh} {w : World} (hs : sat g w (R * Sl 1 v n xs)) : sat g w (R * Gr v n xs v n xs) := by
  obtain ⟨a, c, e, _, hl, _⟩ := sl_have hs
  exact gr_iff.2 (.inl ⟨a, c, e, e, Nat.le_refl _, by rw [List.take_of_length_le (by omega)], hs⟩)
theorem take_some {ys : List Value} {n i : Nat} {u : Value} (h : (ys.take n)[i]? = some u) : ys[i]? = some u := by
  rw [List.getElem?_take] at h
  split at h
  · exact h
  · cases h
theorem rd_take {A : SP} {a : Option Addr} {ys : List Value} (h : Rd A a ys) (n : Nat) : Rd A a (ys.take n) := by
  rcases h with rfl | ⟨b, off, rfl, hc⟩
  · exact .inl (by simp)
  · exact rd_cells (hc.sub 0 n (by rw [List.drop_zero]))
theorem rd_key {A : SP} {a : Option Addr} {xs : List Value} {g : Gh} {w : World} (h0 : sat g w A) (h : ∀ g w, sat g w A → ∀ i (u : Value), xs[i]? = some u → ∃ b o, a = some ⟨b, o, none⟩ ∧ w.cell? ⟨b, o + i, none⟩ = some u) : Rd A a xs := by
  cases xs with
  | nil => exact .inl rfl
  | cons x l =>
    obtain ⟨b, o, rfl, _⟩ := h g w h0 0 x rfl
    refine rd_cells fun i u hu g w hs => ?_
    obtain ⟨b', o', e, h1⟩ := h g w hs i u hu
    simp only [Option.some.injEq, Addr.mk.injEq, and_true] at e
    obtain ⟨rfl, rfl⟩ := e
    exact h1
/-- Both are read. -/
theorem gr_have {v v' : Value} {n m : Nat} {xs ys : List Value} {R : SP} {g : Gh} {w : World} (hs : sat g w (R * Gr v n xs v' m ys)) :
    ∃ a c a' c', v = .slice a n c ∧ v' = .slice a' m c' ∧ xs.length = n ∧ ys.length = m ∧ n ≤ c ∧ m ≤ c' ∧
      Rd (R * Gr v n xs v' m ys) a xs ∧ Rd (R * Gr v n xs v' m ys) a' ys := by
  have key : ∀ g w, sat g w (R * Gr v n xs v' m ys) → ∃ a c a' c', v = .slice a n c ∧ v' = .slice a' m c' ∧ xs.length = n ∧ ys.length = m ∧ n ≤ c ∧ m ≤ c' ∧
      (∀ i (u : Value), xs[i]? = some u → ∃ b o, a = some ⟨b, o, none⟩ ∧ w.cell? ⟨b, o + i, none⟩ = some u) ∧ (∀ i (u : Value), ys[i]? = some u → ∃ b o, a' = some ⟨b, o, none⟩ ∧ w.cell? ⟨b, o + i, none⟩ = some u) := by
    intro g w hs
    rcases gr_iff.1 hs with ⟨a, c, e1, e2, e3, e4, hs⟩ | hs
    · obtain ⟨a', c', e', hle, hl, hr⟩ := sl_have hs
      rw [e2] at e'
      simp only [Value.slice.injEq, true_and] at e'
      obtain ⟨rfl, rfl⟩ := e'
      refine ⟨a, c, a, c, e1, e2, by rw [e4, List.length_take]; omega, by omega, by omega, hle, fun i u hu => ?_, fun i u hu => ?_⟩
      · rw [e4] at hu
        have hu' : ys[i]? = some u := take_some hu
        rcases hr with rfl | ⟨b, o, rfl, hc⟩
        · simp at hu'
        · exact ⟨b, o, rfl, hc i u hu' g w hs⟩
      · rcases hr with rfl | ⟨b, o, rfl, hc⟩
        · simp at hu
        · exact ⟨b, o, rfl, hc i u hu g w hs⟩
    · obtain ⟨a', c', e', hle', hl', hr'⟩ := sl_have hs
      have hs2 := hs.left
      obtain ⟨a, c, e, hle, hl, hr⟩ := sl_have hs2
      refine ⟨a, c, a', c', e, e', by omega, by omega, hle, hle', fun i u hu => ?_, fun i u hu => ?_⟩
      · rcases hr with rfl | ⟨b, o, rfl, hc⟩
        · simp at hu
        · exact ⟨b, o, rfl, hc i u hu g w hs2⟩
      · rcases hr' with rfl | ⟨b, o, rfl, hc⟩
        · simp at hu
        · exact ⟨b, o, rfl, hc i u hu g w hs⟩
  obtain ⟨a, c, a', c', e1, e2, l1, l2, g1, g2, _, _⟩ := key g w hs
  refine ⟨a, c, a', c', e1, e2, l1, l2, g1, g2, rd_key hs fun g w hs => ?_, rd_key hs fun g w hs => ?_⟩
  · obtain ⟨x, y, x', y', e1', e2', _, _, _, _, h1, _⟩ := key g w hs
    rw [e1] at e1'; simp only [Value.slice.injEq] at e1'
    rw [e1'.1]; exact h1
  · obtain ⟨x, y, x', y', e1', e2', _, _, _, _, _, h2⟩ := key g w hs
    rw [e2] at e2'; simp only [Value.slice.injEq] at e2'
    rw [e2'.1]; exact h2
section
variable {P : Program} {n : Nat} {ρ : Env} {A : SP} {dst : Option Tmp} {ty : TypeId} {pos : String} {after : Array Edge} {gd : Option (Nat × Bool)}
theorem o_appendGr {t t' e e' : TypeId} {x y : Operand} {v v' z : Value} {q p m bytes c : Nat} {a : Option Addr} {os xs ys : List Value} {R : SP}
    (hu : P.underlying t = some (.slice e)) (hu' : P.underlying t' = some (.slice e')) (hk : szE P e = some 1) (hb : bytesE P e = some bytes) (hz : zeroE P e = some z) (hzk : z.cells.size = 1) (hb0 : 0 < bytes)
    (hx : ev n ρ x = v') (hy : ev n ρ y = .slice a m c) (hA : A = R * Gr v p os v' q xs) (hr : Rd A a ys) (hm : ys.length = m) (ho : ∀ u ∈ ys, oneC u = true) (hlim : (q + m) * bytes ≤ 140737488355328) :
    OpX P n ρ A ⟨dst, .call { callee := .builtin .append, args := #[x, y], argTypes := #[t, t'] }, ty, pos, after, gd⟩ (fun v'' B => B = R * Gr v p os v'' (q + m) (xs ++ ys)) := fun g w hs => by
  have hs0 := hs
  rw [hA] at hs0
  rcases gr_iff.1 hs0 with ⟨b0, c0, e1, e2, e3, e4, hs1⟩ | hs1
  · obtain ⟨_, _, _, _, hlx, _⟩ := sl_have hs1
    have hr1 : Rd (R * Sl 1 v' q xs) a ys := hr.pre fun g w h => by rw [hA]; exact gr_iff.2 (.inl ⟨b0, c0, e1, e2, e3, e4, h⟩)
    obtain ⟨v2, w', B, h1, h2, ⟨a', c', ea, eb, _, rfl⟩ | rfl⟩ := o_appendG (dst := dst) (ty := ty) (pos := pos) (after := after) (gd := gd) (ρ := ρ) hu hu' hk hb hz hzk (by decide) hb0 hx hy rfl hr1 (by omega) ho hlim g w hs1
    · refine ⟨v2, w', _, h1, ?_, rfl⟩
      rw [e2] at ea
      simp only [Value.slice.injEq, true_and] at ea
      obtain ⟨rfl, rfl⟩ := ea
      exact gr_iff.2 (.inl ⟨_, _, e1, eb, by omega, by rw [e4, List.take_append_of_le_length (by omega)], h2⟩)
    · refine ⟨v2, w', _, h1, gr_iff.2 (.inr ?_), rfl⟩
      -- the old block stays: v's part of it
      obtain ⟨hl2, h3 | h3⟩ := sl_iff.1 (by rw [star_swap] at h2; exact h2)
      · obtain ⟨f1, f2, f3⟩ := h3
        subst f2
        have hp : p = 0 := by omega
        subst hp
        rw [star_swap]
        refine sl_iff.2 ⟨by rw [e4]; simp, .inl ⟨?_, rfl, f3⟩⟩
        rw [e2] at f1; rw [e1]; simp only [Value.slice.injEq] at f1 ⊢; exact ⟨f1.1, trivial, f1.2.2⟩
      · obtain ⟨b, off, cap, l, E, f1, f2, f3, f4, f5⟩ := h3
        rw [star_swap]
        rw [e2] at f1
        simp only [Value.slice.injEq, true_and] at f1
        obtain ⟨rfl, rfl⟩ := f1
        refine sl_iff.2 ⟨by rw [e4, List.length_take]; omega, .inr ⟨b, off, c0, l, E, e1, by omega, f3, ?_, f5⟩⟩
        rw [e4, ← f4, List.take_take]; congr 1; omega
  · have hr1 : Rd (R * Sl 1 v p os * Sl 1 v' q xs) a ys := hr.pre fun g w h => by rw [hA]; exact gr_iff.2 (.inr h)
    obtain ⟨v2, w', B, h1, h2, rfl⟩ := o_append (dst := dst) (ty := ty) (pos := pos) (after := after) (gd := gd) (ρ := ρ) hu hu' hk hb hz hzk (by decide) hb0 hx hy rfl hr1 (by omega) ho hlim g w hs1
    exact ⟨v2, w', _, h1, gr_iff.2 (.inr h2), rfl⟩
end


end Go.Vl
