/- Part of the proof: what the claim leans on. -/
import Derived.Test.YthnediamopehfaaZPLX
set_option linter.unusedSimpArgs false
set_option linter.unusedVariables false
namespace Go.Proofs.Ythnediamopehfaa
open Go.RowKit
theorem panels_in {b : Bl} (h : checkErr b = 0) {i : Nat} (hi : i < 4) : i < b.panels.length ∧ 1 ≤ b.panels.getD i 0 ∧ b.panels.getD i 0 ≤ 3000 := by
  obtain ⟨⟨l1, -, -⟩, -, -, -, ⟨p0, p1, p2, p3⟩, -⟩ := good_nums h
  refine ⟨by omega, ?_⟩
  match i, hi with
  | 0, _ => exact p0
  | 1, _ => exact p1
  | 2, _ => exact p2
  | 3, _ => exact p3
def playA (b d : Bl) (y1 y2 : Int) (i : Nat) : Int := panR b i 0 - panR d i 0 - y1 - y2
theorem playL_len {b d : Bl} {s t : Sp} (h : checkErr b = 0) (k : checkErr d = 0) : (playL b d s t).length = 4 := by
  obtain ⟨⟨l1, -, -⟩, -⟩ := good_nums h
  obtain ⟨⟨l2, -, -⟩, -⟩ := good_nums k
  simp [playL, l1, l2]
theorem playL_at {b d : Bl} {x1 y1 x2 y2 : Int} (h : checkErr b = 0) (k : checkErr d = 0) {i : Nat} (hi : i < 4) : (playL b d (x1, y1) (x2, y2)).getD i (0, 0) = (playA b d y1 y2 i, playA b d x1 x2 i) := by
  have hb := (panels_in h hi).1
  have hd := (panels_in k hi).1
  simp only [playL, playA, panR, List.getD_eq_getElem?_getD, List.getElem?_zipWith, List.getElem?_eq_getElem hb, List.getElem?_eq_getElem hd, Option.getD_some, Prod.mk.injEq]
  constructor <;> omega
theorem pp_at {W : World} {aa : Option Addr} {a o n c : Nat} {xs : List Sp} (h : Pp W aa n c xs) (ha : aa = some ⟨a, o, none⟩) {i : Nat} (hi : i < xs.length) {u v : Int} (e : xs.getD i (0, 0) = (u, v)) :
    W.cell? ⟨a, o + i * 2, none⟩ = some (.int .i64 u) ∧ W.cell? ⟨a, o + i * 2 + 1, none⟩ = some (.int .i64 v) := by
  subst ha
  obtain ⟨b, off, e', -, hc⟩ := h.at (by omega)
  cases e'
  have := hc i hi
  rw [e] at this
  exact this
theorem Pp.otherA {W W' : World} {a : Option Addr} {n c b : Nat} {xs : List Sp} (h : Pp W a n c xs) (hot : ∀ k x, k ≠ b → W.heap[k]? = some x → W'.heap[k]? = some x) (hne : ∀ g o, a = some ⟨g, o, none⟩ → g ≠ b) (hz : W.heap.size ≤ W'.heap.size) : Pp W' a n c xs := by
  rcases h.2.2.2.2 with h4 | ⟨g, o, e, hl, -⟩
  · exact ⟨h.1, h.2.1, h.2.2.1, h.2.2.2.1, .inl h4⟩
  · subst e
    exact h.other hot hl (hne g o rfl) hz
theorem isPp_of {W : World} {a : Option Addr} {n c : Nat} {l : List Sp} (h : Pp W a n c l) : IsPp l (.slice a n c) W := by
  obtain rfl := h.1
  exact ⟨a, c, rfl, h⟩
theorem play_bad {L PL : List Sp} {E x : Int} (hL : (if E = 0 then PL else []) = L) (hQ : (E == x) = true) (hn : (x != 0) = true) : ((L.length : Int) == 0) = true := by
  rw [beq_iff_eq] at hQ
  rw [bne_iff_ne] at hn
  rw [← hL, if_neg (by omega)]
  rfl
theorem play_e1 {b d : Bl} {s t : Sp} {x : Int} (h : checkErr b = x) (hx : (x != 0) = true) : checkedErr [b, d] [s, t] = x := by
  have hx' : ¬ x = 0 := bne_iff_ne.1 hx
  simp [checkedErr, h, hx']
theorem play_e2 {b d : Bl} {s t : Sp} {x : Int} (h : checkErr b = 0) (h2 : checkErr d = x) (hx : (x != 0) = true) : checkedErr [b, d] [s, t] = x := by
  have hx' : ¬ x = 0 := bne_iff_ne.1 hx
  simp [checkedErr, h, h2, hx']
theorem play_e3 {b d : Bl} {s t : Sp} (h : checkErr b = 0) (h2 : checkErr d = 0) (h3 : isSpan s 1 10000 = false) : checkedErr [b, d] [s, t] = 3 := by simp [checkedErr, h, h2, h3]
theorem play_e4 {b d : Bl} {s t : Sp} (h : checkErr b = 0) (h2 : checkErr d = 0) (h3 : isSpan t 1 10000 = false) : checkedErr [b, d] [s, t] = 3 := by simp [checkedErr, h, h2, h3]
theorem play_e5 {b d : Bl} {s t : Sp} (h : checkErr b = 0) (h2 : checkErr d = 0) (h3 : isSpan s 1 10000 = true) (h4 : isSpan t 1 10000 = true) : checkedErr [b, d] [s, t] = 0 := by simp [checkedErr, h, h2, h3, h4]
theorem not_le4 {i : Nat} (h : i < 4) : ¬ (4 : Int) ≤ (i : Int) := by omega
end Go.Proofs.Ythnediamopehfaa
