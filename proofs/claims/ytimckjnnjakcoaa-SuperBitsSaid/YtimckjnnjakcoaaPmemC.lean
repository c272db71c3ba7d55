/- Of bytes a device; bytes that are stored, word by word: told in plain Lean. Conditions: none. -/
import Derived.Test.YtimckjnnjakcoaaPmemB
import Derived.Test.YtimckjnnjakcoaaFoc
set_option linter.unusedVariables false
set_option linter.unusedSimpArgs false
namespace Go.Vl
open Go Go.Proofs


/-- A line of bytes. -/
def wordF (xs : List Nat) (i k : Nat) : Nat := nm ((xs.drop (i * 64 + k * 8)).take 8)
def lineF (xs : List Nat) (i : Nat) : LineS := ⟨[(List.replicate 8 0).mapIdx fun k _ => wordF xs i k], -1⟩
/-- A device of bytes. -/
def fromS (n : Nat) (xs : List Nat) : DevS := { newS n with ls := (newS n).ls.mapIdx fun i _ => lineF xs i }
theorem take8_lt {xs : List Nat} (hb : ∀ x ∈ xs, x < 256) (p : Nat) : nm ((xs.drop p).take 8) < 18446744073709551616 := by
  have h1 := nm_lt ((xs.drop p).take 8) fun x hx => hb x (List.mem_of_mem_drop (List.mem_of_mem_take hx))
  have h2 : ((xs.drop p).take 8).length ≤ 8 := by rw [List.length_take]; omega
  have h3 := Nat.pow_le_pow_right (show 0 < 256 by decide) h2
  have : (256 : Nat) ^ 8 = 18446744073709551616 := by decide
  omega
theorem lineF_wf {xs : List Nat} (hb : ∀ x ∈ xs, x < 256) (i : Nat) : WfL (lineF xs i) := by
  refine ⟨by simp [lineF], ?_, by simp [lineF], by simp [lineF], by simp [lineF], ?_⟩
  · intro s hs
    simp only [lineF, List.mem_singleton] at hs; subst hs; simp
  · intro s hs x hx
    simp only [lineF, List.mem_singleton] at hs; subst hs
    obtain ⟨j, hj, rfl⟩ := List.mem_iff_getElem.1 hx
    rw [List.getElem_mapIdx]; exact take8_lt hb _
theorem fromS_wf {n : Nat} {xs : List Nat} (h : 0 < n) (h2 : n ≤ 65536) (hb : ∀ x ∈ xs, x < 256) : WfD (fromS n xs) :=
  ⟨by simp [fromS, newS]; exact h, by simp [fromS, newS]; exact h2, fun l hl => by
    obtain ⟨j, hj, rfl⟩ := List.mem_iff_getElem.1 hl
    simp only [fromS, List.getElem_mapIdx]; exact lineF_wf hb _, by simp [fromS, newS], by simp [fromS, newS], by simp [fromS, newS]⟩
/-- Bytes laid over others. -/
def spl {α : Type} (l : List α) (p : Nat) (b : List α) : List α := l.take p ++ b ++ l.drop (p + b.length)
theorem spl_length {α : Type} {l b : List α} {p : Nat} (h : p + b.length ≤ l.length) : (spl l p b).length = l.length := by
  simp only [spl, List.length_append, List.length_take, List.length_drop]; omega
theorem splice_spl {l b : List Value} {p : Nat} (h : p + b.length ≤ l.length) : splice l p b = spl l p b := splice_eq h
theorem spl_at {α : Type} {l b : List α} {p i : Nat} (h : p + b.length ≤ l.length) : (spl l p b)[i]? = if p ≤ i ∧ i < p + b.length then b[i - p]? else l[i]? := by
  unfold spl
  by_cases h1 : i < p
  · rw [if_neg (by omega), List.append_assoc, List.getElem?_append_left (by simp; omega), List.getElem?_take, if_pos h1]
  · by_cases h2 : i < p + b.length
    · rw [if_pos (by omega), List.append_assoc, List.getElem?_append_right (by simp; omega), List.getElem?_append_left (by simp; omega)]
      congr 1; simp; omega
    · rw [if_neg (by omega), List.getElem?_append_right (by simp; omega), List.getElem?_drop]
      congr 1; simp; omega
theorem spl_bys (l b : List Nat) (p : Nat) : spl (bys l) p (bys b) = bys (spl l p b) := by
  simp [spl, bys, List.map_take, List.map_drop]
theorem spl_spl {α : Type} {l b c : List α} {p : Nat} (h : p + b.length + c.length ≤ l.length) : spl (spl l p b) (p + b.length) c = spl l p (b ++ c) := by
  have h1 : p + b.length ≤ l.length := by omega
  apply List.ext_getElem?
  intro i
  rw [spl_at (by rw [spl_length h1]; omega), spl_at h1, spl_at (by simp; omega)]
  by_cases h2 : p + b.length ≤ i ∧ i < p + b.length + c.length
  · rw [if_pos h2, if_pos (by simp; omega), List.getElem?_append_right (by omega)]; congr 1; omega
  · rw [if_neg h2]
    by_cases h3 : p ≤ i ∧ i < p + b.length
    · rw [if_pos h3, if_pos (by simp; omega), List.getElem?_append_left (by omega)]
    · rw [if_neg h3, if_neg (by simp; omega)]
/-- A word's bytes with some of them laid over. -/
def stW (p : Nat) (b : List Nat) (s : DevS) : List Nat := spl (le 8 ((seenL (s.ls.getD (p / 64) zline)).getD (p % 64 / 8) 0)) (p % 8) (b.take (8 - p % 8))
def storeF : Nat → Nat → List Nat → DevS → Int × DevS
  | 0, _, _, s => (0, s)
  | f + 1, p, b, s => if b = [] then (0, s) else
    if doneE (layS (p - p % 8) (nm (stW p b s)) s) ≠ 0 then (doneE (layS (p - p % 8) (nm (stW p b s)) s), doneS (layS (p - p % 8) (nm (stW p b s)) s))
    else storeF f (p + min (8 - p % 8) b.length) (b.drop (8 - p % 8)) (doneS (layS (p - p % 8) (nm (stW p b s)) s))
theorem storeF_nil (f p : Nat) (s : DevS) : storeF f p [] s = (0, s) := by cases f <;> rfl
theorem storeF_fuel : ∀ (f g : Nat) {p : Nat} {b : List Nat} {s : DevS}, b.length ≤ f → b.length ≤ g → storeF f p b s = storeF g p b s
  | f, g, p, [], s, _, _ => by rw [storeF_nil, storeF_nil]
  | 0, _, _, _ :: _, _, h, _ => by simp at h
  | _, 0, _, _ :: _, _, _, h => by simp at h
  | f + 1, g + 1, p, x :: b, s, hf, hg => by
    have hd : ((x :: b).drop (8 - p % 8)).length ≤ b.length := by rw [List.length_drop, List.length_cons]; omega
    simp only [List.length_cons] at hf hg
    unfold storeF
    rw [storeF_fuel f g (by omega) (by omega)]
/-- What Store answers, and the device behind it. -/
def sto (p : Int) (b : List Nat) (s : DevS) : Int × DevS := if rdy s.ls.length s.off p b.length ≠ 0 then (rdy s.ls.length s.off p b.length, s) else storeF b.length p.toNat b s

end Go.Vl
