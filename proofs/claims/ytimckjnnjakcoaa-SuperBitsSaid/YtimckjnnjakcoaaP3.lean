/- What Store does, told in plain Lean: bytes are laid over the image. Conditions: none. -/
import Derived.Test.YtimckjnnjakcoaaP2
import Derived.Test.YtimckjnnjakcoaaL8p
set_option linter.unusedVariables false
set_option linter.unusedSimpArgs false
namespace Go.Vl
open Go Go.Proofs


theorem spl_in {α : Type} {l b : List α} {q r k : Nat} (h1 : r + b.length ≤ k) (h2 : q + k ≤ l.length) : spl l q (spl ((l.drop q).take k) r b) = spl l (q + r) b := by
  have h3 : ((l.drop q).take k).length = k := by rw [List.length_take, List.length_drop]; omega
  apply List.ext_getElem?
  intro i
  rw [spl_at (by rw [spl_length (by omega)]; omega), spl_at (by omega), spl_length (by omega), h3]
  by_cases h : q ≤ i ∧ i < q + k
  · rw [if_pos h, spl_at (by omega)]
    by_cases h' : r ≤ i - q ∧ i - q < r + b.length
    · rw [if_pos h', if_pos (by omega)]; congr 1; omega
    · rw [if_neg h', if_neg (by omega), List.getElem?_take, if_pos (by omega), List.getElem?_drop]; congr 1; omega
  · rw [if_neg h, spl_at (by omega), if_neg (by omega)]
theorem spl_app {α : Type} (a l b : List α) {n p q : Nat} (ha : a.length = n) (hq : q = n + p) : spl (a ++ l) q b = a ++ spl l p b := by
  subst ha hq
  unfold spl
  rw [List.take_length_add_append, Nat.add_assoc, List.drop_length_add_append]
  simp only [List.append_assoc]
theorem spl_head {α : Type} (a l b : List α) (h : a.length = b.length) : spl (a ++ l) 0 b = b ++ l := by
  unfold spl
  rw [List.take_zero, List.nil_append, Nat.zero_add, ← h, List.drop_left]
theorem lb_set : ∀ {s : List Nat} {k v : Nat}, k < s.length → lb (s.set k v) = spl (lb s) (8 * k) (le 8 v)
  | x :: s, 0, v, _ => (spl_head (le 8 x) (lb s) (le 8 v) (by rw [le_length, le_length])).symm
  | x :: s, k + 1, v, h => by
    have ih := lb_set (s := s) (k := k) (v := v) (by simpa using h)
    show le 8 x ++ lb (s.set k v) = _
    rw [ih]
    exact (spl_app (le 8 x) (lb s) (le 8 v) (le_length 8 x) (by omega)).symm
theorem img_set : ∀ {ls : List LineS} {i : Nat} {l : LineS} (_ : ∀ l ∈ ls, WfL l) (_ : i < ls.length) (_ : (lb (seenL l)).length = 64), img (ls.set i l) = spl (img ls) (i * 64) (lb (seenL l))
  | l0 :: ls, 0, l, h, _, h8 => by
    have h0 := seen8 (h l0 (by simp))
    exact (by rw [Nat.zero_mul]; exact (spl_head (lb (seenL l0)) (img ls) (lb (seenL l)) (by rw [h0, h8])).symm)
  | l0 :: ls, i + 1, l, h, hi, h8 => by
    have h0 := seen8 (h l0 (by simp))
    have ih := img_set (i := i) (l := l) (fun x hx => h x (List.mem_cons_of_mem _ hx)) (by simpa using hi) h8
    show lb (seenL l0) ++ img (ls.set i l) = _
    rw [ih]
    exact (spl_app (lb (seenL l0)) (img ls) (lb (seenL l)) h0 (by omega)).symm
theorem img_lay {s : DevS} {q v : Nat} (hw : WfD s) (hq : q % 8 = 0) (hi : q / 64 < s.ls.length) (hv : v < 18446744073709551616) (hr : Room 1 s) : imgS (layS q v s) = spl (imgS s) q (le 8 v) := by
  have hwl := hw.line _ (List.getElem_mem hi)
  have h8 := hwl.eight _ (seenL_mem hwl)
  have hl := img_length hw.line
  have hs8 := seen8 hwl
  have e1 : (layS q v s).ls = s.ls.set (q / 64) (layL (q % 64 / 8) v s.ls[q / 64]) := by unfold layS; rw [onLine_at hi]
  have e2 : seenL (layL (q % 64 / 8) v s.ls[q / 64]) = (seenL s.ls[q / 64]).set (q % 64 / 8) v := by unfold layL; rw [seenL_app]
  have e3 : lb ((seenL s.ls[q / 64]).set (q % 64 / 8) v) = spl (lb (seenL s.ls[q / 64])) (q % 64) (le 8 v) := by
    rw [lb_set (by omega)]; congr 1; omega
  have e4 : ((imgS s).drop (q / 64 * 64)).take 64 = lb (seenL s.ls[q / 64]) := by unfold imgS; rw [img_at hw.line hi, List.take_append_of_le_length (by omega), List.take_of_length_le (by omega)]
  unfold imgS at e4 ⊢
  rw [e1, img_set hw.line hi (by rw [e2, e3, spl_length (by rw [le_length]; omega), hs8]), e2, e3, ← e4, spl_in (by rw [le_length]; omega) (by omega)]
  congr 1; omega
theorem word_at {s : DevS} {p : Nat} (hw : WfD s) (hi : p / 64 < s.ls.length) : le 8 ((seenL (s.ls.getD (p / 64) zline)).getD (p % 64 / 8) 0) = ((imgS s).drop (p - p % 8)).take 8 := by
  have hwl := hw.line _ (List.getElem_mem hi)
  have h8 := hwl.eight _ (seenL_mem hwl)
  have hs8 := seen8 hwl
  have hc := img_chunk (q := p - p % 8) (c := 8) hw.line (by rw [show (p - p % 8) / 64 = p / 64 by omega]; exact hi) (by omega)
  unfold imgS
  rw [← hc, seenL_getD hi]
  have e : (p - p % 8) / 64 = p / 64 := by omega
  simp only [e]
  have h2 := lb_word (s := seenL s.ls[p / 64]) (r := p % 64 / 8) (by omega) []
  rw [List.append_nil] at h2
  have e2 : (p - p % 8) % 64 = 8 * (p % 64 / 8) := by omega
  rw [e2, h2]
  congr 1
  simp [List.getD, show p % 64 / 8 < (seenL s.ls[p / 64]).length by omega]
theorem img_stW {s : DevS} {p : Nat} {b : List Nat} (hw : WfD s) (hi : p / 64 < s.ls.length) (hb : ∀ x ∈ b, x < 256) (hr : Room 1 s) : imgS (layS (p - p % 8) (nm (stW p b s)) s) = spl (imgS s) p (b.take (8 - p % 8)) := by
  have hl := img_length hw.line
  have e8 : le 8 (nm (stW p b s)) = stW p b s := by have := le_nm _ (stW_bytes (p := p) (s := s) hb); rw [stW_len] at this; exact this
  rw [img_lay hw (by omega) (by rw [show (p - p % 8) / 64 = p / 64 by omega]; exact hi) (stW_nm hb) hr, e8]
  unfold stW
  rw [word_at hw hi, spl_in (by rw [List.length_take]; omega) (by unfold imgS; omega)]
  congr 1; omega
/-- How many words bytes touch. -/
def cw (p m : Nat) : Nat := if m = 0 then 0 else (p + m - 1) / 8 - p / 8 + 1
theorem spl_nil {α : Type} (l : List α) (p : Nat) : spl l p [] = l := by simp [spl]
theorem storeF_img : ∀ (m : Nat) {p : Nat} {b : List Nat} {s : DevS}, b.length = m → WfD s → Live s → (∀ x ∈ b, x < 256) → Room m s → p + m ≤ s.ls.length * 64 → 0 ≤ s.ops ∧ s.ops + m < 9223372036854775807 →
    (storeF b.length p b s).1 = 0 ∧ imgS (storeF b.length p b s).2 = spl (imgS s) p b ∧ (storeF b.length p b s).2.ops = s.ops + cw p m ∧ Live (storeF b.length p b s).2 ∧ WfD (storeF b.length p b s).2 ∧ (storeF b.length p b s).2.ls.length = s.ls.length := by
  intro m
  induction m using Nat.strongRecOn with
  | _ m ih =>
    intro p b s hm hw hL hb hroom hp hops
    by_cases h0 : b = []
    · subst h0
      have : m = 0 := by simpa using hm.symm
      subst this
      rw [storeF_nil]
      exact ⟨rfl, (spl_nil _ _).symm, by simp [cw], hL, hw, rfl⟩
    · have hpos : 0 < b.length := List.length_pos_iff.2 h0
      have hi : p / 64 < s.ls.length := by omega
      have hr1 : Room 1 s := fun l hl => by have := hroom l hl; omega
      have hr2 : Room ((m - 1) + 1) s := fun l hl => by have := hroom l hl; omega
      have hlf := onLine_fields (layL ((p - p % 8) % 64 / 8) (nm (stW p b s))) ((p - p % 8) / 64) s
      have hLL : Live (layS (p - p % 8) (nm (stW p b s)) s) := ⟨by unfold layS; rw [hlf.2.2.2.1]; exact hL.off, by unfold layS; rw [hlf.2.1]; exact hL.arms⟩
      have hd := doneS_live hLL.arms
      have hwL := layS_wf (at_ := p - p % 8) hw hr1 (stW_nm (p := p) (s := s) hb)
      have himg := img_stW (p := p) hw hi hb hr1
      have hwr : wr64 ((layS (p - p % 8) (nm (stW p b s)) s).ops + 1) = s.ops + 1 := by
        have : (layS (p - p % 8) (nm (stW p b s)) s).ops = s.ops := hlf.1
        rw [this]
        have : IntKind.i64.wrap (s.ops + 1) = s.ops + 1 := by simp [IntKind.wrap, IntKind.bits, IntKind.signed]; omega
        exact this
      rw [storeF_step h0, hd.2, if_neg (by decide), hd.1, hwr]
      have hk : (b.drop (8 - p % 8)).length = m - min m (8 - p % 8) := by rw [List.length_drop]; omega
      have hroom2 : Room (m - min m (8 - p % 8)) (layS (p - p % 8) (nm (stW p b s)) s) := fun l hl => by
        have := onLine_room (f := layL ((p - p % 8) % 64 / 8) (nm (stW p b s))) (i := (p - p % 8) / 64) hr2 (fun l => by simp [layL]) l hl
        omega
      have hlen : (layS (p - p % 8) (nm (stW p b s)) s).ls.length = s.ls.length := layS_len _ _ _
      obtain ⟨g1, g2, g3, g4, g5, g6⟩ := ih (m - min m (8 - p % 8)) (by omega) (p := p + min b.length (8 - p % 8)) (b := b.drop (8 - p % 8)) (s := { layS (p - p % 8) (nm (stW p b s)) s with ops := s.ops + 1 })
        hk (wfD_ops hwL _) ⟨hLL.off, hLL.arms⟩ (fun x hx => hb x (List.mem_of_mem_drop hx)) hroom2 (by show _ ≤ (layS (p - p % 8) (nm (stW p b s)) s).ls.length * 64; rw [hlen]; omega) (by show 0 ≤ s.ops + 1 ∧ s.ops + 1 + _ < _; omega)
      refine ⟨g1, ?_, ?_, g4, g5, by rw [g6]; exact hlen⟩
      · rw [g2]
        show spl (imgS (layS (p - p % 8) (nm (stW p b s)) s)) _ _ = _
        have hl := img_length hw.line
        have ht : (b.take (8 - p % 8)).length = min b.length (8 - p % 8) := by rw [List.length_take]; omega
        rw [himg, ← ht, spl_spl (by rw [ht, List.length_drop]; unfold imgS; omega), List.take_append_drop]
      · rw [g3]
        show s.ops + 1 + ((cw _ _ : Nat) : Int) = _
        have : cw p m = 1 + cw (p + min b.length (8 - p % 8)) (m - min m (8 - p % 8)) := by unfold cw; split <;> split <;> omega
        omega
theorem spl_take {l b : List Nat} {p i : Nat} (hi : i < b.length) (hp : p + b.length ≤ l.length) : (spl l p (b.take i)).set (p + i) b[i] = spl l p (b.take (i + 1)) := by
  apply List.ext_getElem?
  intro j
  have h1 : (b.take i).length = i := by rw [List.length_take]; omega
  have h2 : (b.take (i + 1)).length = i + 1 := by rw [List.length_take]; omega
  rw [spl_at (by omega), List.getElem?_set, spl_length (by omega)]
  by_cases hj : p + i = j
  · subst hj
    rw [if_pos rfl, if_pos (by omega), if_pos (by omega), show p + i - p = i by omega, List.getElem?_take, if_pos (by omega), List.getElem?_eq_getElem hi]
  · rw [if_neg hj, spl_at (by omega), h1, h2]
    by_cases h : p ≤ j ∧ j < p + i
    · rw [if_pos h, if_pos (by omega), List.getElem?_take, List.getElem?_take, if_pos (by omega), if_pos (by omega)]
    · rw [if_neg h, if_neg (by omega)]
theorem cw_zero (p : Nat) : cw p 0 = 0 := rfl
theorem cw_t {p i : Nat} (h : i = 0 ∨ (p + i) % 8 = 0) : cw p (i + 1) = cw p i + 1 := by unfold cw; rw [if_neg (by omega)]; split <;> omega
theorem cw_f {p i : Nat} (h : ¬ (i = 0 ∨ (p + i) % 8 = 0)) : cw p (i + 1) = cw p i := by unfold cw; rw [if_neg (by omega), if_neg (by omega)]; omega
/-- The image that the statement begins with. -/
def im (n : Nat) : List Nat := (List.range n).map fun i => (i + 1) % 256
theorem im_length (n : Nat) : (im n).length = n := by simp [im]
theorem im_succ (n : Nat) : im (n + 1) = im n ++ [(n + 1) % 256] := by simp [im, List.range_succ]
theorem im_bytes (n : Nat) : ∀ x ∈ im n, x < 256 := by
  intro x hx; simp only [im, List.mem_map] at hx; obtain ⟨i, _, rfl⟩ := hx; omega
theorem lineF_lb {xs : List Nat} (hb : ∀ x ∈ xs, x < 256) {i : Nat} (hi : i * 64 + 64 ≤ xs.length) : lb (seenL (lineF xs i)) = (xs.drop (i * 64)).take 64 := by
  have e : seenL (lineF xs i) = (List.replicate 8 0).mapIdx fun k _ => wordF xs i k := by simp [seenL, lineF]
  rw [e]
  have key : ∀ k, k ≤ 8 → lb (((List.replicate 8 0).mapIdx fun k _ => wordF xs i k).take k) = (xs.drop (i * 64)).take (k * 8) := by
    intro k
    induction k with
    | zero => intro _; simp [lb]
    | succ k ih =>
      intro hk
      rw [lb_take (by simp; omega), ih (by omega)]
      simp only [List.getElem_mapIdx, wordF]
      have h1 := le_nm ((xs.drop (i * 64 + k * 8)).take 8) (fun x hx => hb x (List.mem_of_mem_drop (List.mem_of_mem_take hx)))
      rw [List.length_take, List.length_drop, Nat.min_eq_left (by omega)] at h1
      rw [h1, show (k + 1) * 8 = k * 8 + 8 by omega, List.take_add, List.drop_drop]
  have := key 8 (by omega)
  rwa [List.take_of_length_le (by simp)] at this
theorem img_from {n : Nat} {xs : List Nat} (hb : ∀ x ∈ xs, x < 256) (hl : xs.length = n * 64) : imgS (fromS n xs) = xs := by
  have e : imgS (fromS n xs) = ((List.range n).map fun i => (xs.drop (i * 64)).take 64).flatten := by
    unfold imgS img fromS
    rw [List.flatMap_def]
    congr 1
    apply List.ext_getElem
    · simp [newS]
    · intro j h1 h2
      simp only [List.length_map, List.length_mapIdx, List.length_range] at h1 h2
      simp only [List.getElem_map, List.getElem_mapIdx, List.getElem_range]
      exact lineF_lb hb (by omega)
  rw [e]
  have key : ∀ k, k ≤ n → ((List.range k).map fun i => (xs.drop (i * 64)).take 64).flatten = xs.take (k * 64) := by
    intro k
    induction k with
    | zero => intro _; simp
    | succ k ih =>
      intro hk
      rw [List.range_succ, List.map_append, List.flatten_append, ih (by omega)]
      simp only [List.map_cons, List.map_nil, List.flatten_cons, List.flatten_nil, List.append_nil]
      rw [show (k + 1) * 64 = k * 64 + 64 by omega, List.take_add]
  rw [key n (Nat.le_refl _), ← hl, List.take_length]
theorem wi_val {p : Int} : (Value.int .i64 (p % 4)) = .int .i64 ((wi p 4 : Nat) : Int) := by
  have := wi_cast (p := p) (n := 4) (by decide)
  rw [← this]; rfl
theorem sto_no {p : Int} {b : List Nat} {s s2 : DevS} {e : Int} (h : sto p b s = (e, s2)) (hoff : s.off = false) (hno : p < 0 ∨ (s.ls.length : Int) * 64 < p ∨ (s.ls.length : Int) * 64 - p < b.length) : e = 6 ∧ s2 = s := by
  have hr : rdy s.ls.length s.off p b.length = 6 := by unfold rdy; rw [hoff, if_neg (by decide), if_pos (by omega)]
  unfold sto at h
  rw [hr, if_pos (by decide)] at h
  simp only [Prod.mk.injEq] at h
  exact ⟨h.1.symm, h.2.symm⟩
theorem sto_yes {q : Nat} {b : List Nat} {s s2 : DevS} {e : Int} (h : sto (q : Int) b s = (e, s2)) (hw : WfD s) (hL : Live s) (hb : ∀ x ∈ b, x < 256) (hroom : Room b.length s) (hp : q + b.length ≤ s.ls.length * 64) (hops : 0 ≤ s.ops ∧ s.ops + b.length < 9223372036854775807) :
    e = 0 ∧ imgS s2 = spl (imgS s) q b ∧ s2.ops = s.ops + cw q b.length ∧ Live s2 ∧ WfD s2 ∧ s2.ls.length = s.ls.length := by
  have hr : rdy s.ls.length s.off q b.length = 0 := by unfold rdy; rw [hL.off, if_neg (by decide), if_neg (by omega)]
  unfold sto at h
  rw [hr, if_neg (by decide), Int.toNat_natCast] at h
  have := storeF_img b.length rfl hw hL hb hroom hp hops
  rw [h] at this
  exact this
theorem room_from {n m : Nat} {xs : List Nat} (h : m ≤ 4194304) : Room m (fromS n xs) := fun l hl => by
  obtain ⟨j, hj, rfl⟩ := List.mem_iff_getElem.1 hl
  simp only [fromS, List.getElem_mapIdx, lineF, List.length_singleton]; omega
theorem cw_le (p m : Nat) : cw p m ≤ m := by unfold cw; split <;> omega
theorem spl_mid {l b : List Nat} {p : Nat} (h : p + b.length ≤ l.length) : ((spl l p b).drop p).take b.length = b := by
  apply List.ext_getElem?
  intro i
  rw [List.getElem?_take]
  split
  · rw [List.getElem?_drop, spl_at h, if_pos (by omega)]; congr 1; omega
  · rw [List.getElem?_eq_none (by omega)]

end Go.Vl
