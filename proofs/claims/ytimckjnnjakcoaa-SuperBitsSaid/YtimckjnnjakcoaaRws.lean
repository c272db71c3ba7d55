/- Lists of lists of bytes, to be read, owned. Conditions: none. -/
import Derived.Test.YtimckjnnjakcoaaPmemB
import Derived.Test.YtimckjnnjakcoaaGrow
set_option linter.unusedVariables false
set_option linter.unusedSimpArgs false
namespace Go.Vl
open Go Go.Proofs


/-- Lists of bytes, to be read. -/
def RdRows (A : SP) (a : Option Addr) (ls : List (List Nat)) : Prop := ∃ vs : List Value, vs.length = ls.length ∧ Rd A a vs ∧ ∀ i (h : i < ls.length), ∃ b c, vs[i]? = some (.slice b ls[i].length c) ∧ Rd A b (bys ls[i])
theorem RdRows.left {A X : SP} {a : Option Addr} {ls : List (List Nat)} (h : RdRows A a ls) : RdRows (A * X) a ls := by
  obtain ⟨vs, h1, h2, h3⟩ := h
  exact ⟨vs, h1, h2.left, fun i hi => by obtain ⟨b, c, e, hr⟩ := h3 i hi; exact ⟨b, c, e, hr.left⟩⟩
theorem RdRows.pre {A B : SP} {a : Option Addr} {ls : List (List Nat)} (h : RdRows A a ls) (k : ∀ g w, sat g w B → sat g w A) : RdRows B a ls := by
  obtain ⟨vs, h1, h2, h3⟩ := h
  exact ⟨vs, h1, h2.pre k, fun i hi => by obtain ⟨b, c, e, hr⟩ := h3 i hi; exact ⟨b, c, e, hr.pre k⟩⟩
theorem parts_get : ∀ {vs : List Value} {ls : List (List Nat)} {i : Nat} (h : vs.length = ls.length) (hi : i < ls.length),
    ∃ R, Parts vs ls = R * Sl 1 (vs[i]'(by omega)) ls[i].length (bys ls[i]) ∧ ∀ v l, Parts (vs.set i v) (ls.set i l) = R * Sl 1 v l.length (bys l)
  | [], [], _, _, hi => by simp at hi
  | v :: vs, l :: ls, 0, h, _ => ⟨Parts vs ls, rfl, fun _ _ => rfl⟩
  | v :: vs, l :: ls, i + 1, h, hi => by
    obtain ⟨R, h1, h2⟩ := parts_get (vs := vs) (ls := ls) (i := i) (by simpa using h) (by simpa using hi)
    refine ⟨R * Sl 1 v l.length (bys l), ?_, fun u m => ?_⟩
    · simp only [Parts, List.getElem_cons_succ]; rw [h1, star_swap]
    · simp only [List.set_cons_succ, Parts]; rw [h2, star_swap]
theorem Foc.parts {A A' : SP} {hvs : List Value} {held : List (List Nat)} (h : Foc A (Parts hvs held) (Parts hvs held) A') (hl : hvs.length = held.length) {g : Gh} {w : World} (hs : sat g w A) :
    ∀ i (hi : i < held.length), ∃ a c, hvs[i]? = some (.slice a held[i].length c) ∧ held[i].length ≤ c ∧ Rd (Parts hvs held) a (bys held[i]) := fun i hi => by
  obtain ⟨R, rfl, _⟩ := h
  obtain ⟨S, h1, _⟩ := parts_get hl hi
  have hs2 := hs.right
  obtain ⟨a, c, e, hle, _, hr⟩ := sl_have' h1 hs2
  exact ⟨a, c, by rw [List.getElem?_eq_getElem (by omega), e], hle, hr⟩
/-- Owned lists of bytes are read. -/
theorem rows_of {A A1 A2 : SP} {v : Value} {vs : List Value} {ls : List (List Nat)} (h1 : Foc A (Sl 1 v ls.length vs) (Sl 1 v ls.length vs) A1) (h2 : Foc A (Parts vs ls) (Parts vs ls) A2) {g : Gh} {w : World} (hs : sat g w A) :
    ∃ a c, v = .slice a ls.length c ∧ ls.length ≤ c ∧ vs.length = ls.length ∧ RdRows A a ls := by
  obtain ⟨a, c, e, hle, hl, hr⟩ := h1.have_sl hs
  have hl' : vs.length = ls.length := by omega
  refine ⟨a, c, e, hle, hl', vs, hl', hr, fun i hi => ?_⟩
  obtain ⟨b, c', e', _, hr'⟩ := h2.parts hl' hs i hi
  obtain ⟨R, rfl, _⟩ := h2
  exact ⟨b, c', e', hr'.right⟩

end Go.Vl
