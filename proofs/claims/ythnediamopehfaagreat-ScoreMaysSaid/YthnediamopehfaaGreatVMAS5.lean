/- Part of the proof: what the claim leans on. -/
import Derived.Test.YthnediamopehfaaGreatVMAL4
set_option linter.unusedSimpArgs false
set_option linter.unusedVariables false
namespace Go.Proofs.YthnediamopehfaaGreat
open Go.RowKit
def mayX (b : Bl) (s h : Int) (ps : List Int) : Bl := { b with slot := s, height := h, panels := ps }
def PsIn (ps : List Int) : Prop := ps.length = 4 ∧ ∀ i, i < 4 → 1 ≤ ps.getD i 0 ∧ ps.getD i 0 ≤ 3000
theorem psIn_b {b : Bl} (hck : checkErr b = 0) : PsIn b.panels := by
  obtain ⟨⟨hl1, hl2, hl3⟩, -, -, -, ⟨gp0, gp1, gp2, gp3⟩, -⟩ := good_nums hck
  refine ⟨hl1, fun i hi => ?_⟩
  match i, hi with
  | 0, _ => exact gp0
  | 1, _ => exact gp1
  | 2, _ => exact gp2
  | 3, _ => exact gp3
theorem psIn_set {ps : List Int} (h : PsIn ps) (i : Nat) {z : Int} (hz : 1 ≤ z ∧ z ≤ 3000) : PsIn (ps.set i z) := by
  refine ⟨by rw [List.length_set]; exact h.1, fun j hj => ?_⟩
  by_cases e : i = j
  · subst e; rw [show (ps.set i z).getD i 0 = z by simp [List.getD_eq_getElem?_getD, h.1, hj]]; exact hz
  · rw [show (ps.set i z).getD j 0 = ps.getD j 0 by simp [List.getD_eq_getElem?_getD, List.getElem?_set, e]]; exact h.2 j hj
theorem mayX_ok {b : Bl} (hck : checkErr b = 0) {s h : Int} {ps : List Int} (hs : 0 ≤ s ∧ s ≤ 20) (hh : 1 ≤ h ∧ h ≤ 3000) (hp : PsIn ps) : checkErr (mayX b s h ps) = 0 := by
  have hop : b.isOpen = true → b.top.getD 0 0 = 0 ∧ b.top.getD 1 0 = 0 := open_top hck
  obtain ⟨⟨-, hl2, hl3⟩, gt, -, -, -, gt0, gt1, gu0, gu1⟩ := good_nums hck
  obtain ⟨hl, hp⟩ := hp
  obtain ⟨tab, panels, hh', top, bottom, sl, op⟩ := b
  obtain ⟨p0, p1, p2, p3, rfl⟩ := list_four hl
  obtain ⟨t0, t1, rfl⟩ := list_two hl2
  obtain ⟨u0, u1, rfl⟩ := list_two hl3
  exact check_lit gt hs hh (hp 0 (by decide)) (hp 1 (by decide)) (hp 2 (by decide)) (hp 3 (by decide)) gt0 gt1 gu0 gu1 hop
theorem hold_pan (b : Bl) (w : Wi) {i : Nat} (hi : i < 4) (c : Int) : holdsR b w i c = panS w i (b.panels.getD i 0) c := by
  match i, hi with
  | 0, _ => rfl
  | 1, _ => rfl
  | 2, _ => rfl
  | 3, _ => rfl
theorem pan_set {ps : List Int} (h : PsIn ps) {i : Nat} (hi : i < 4) {z : Int} : (ps.set i z).getD i 0 = z := by simp [List.getD_eq_getElem?_getD, h.1, hi]
def anyTo (f : Int → Bool) (F : Int) : Nat → Bool
  | 0 => false
  | n + 1 => anyTo f F n || f (F + (n : Int))
theorem anyTo_all (f : Int → Bool) (F G : Int) : anyTo f F (rangeL F G).length = (rangeL F G).any f := by
  have h : ∀ n, anyTo f F n = ((List.range n).map fun (k : Nat) => F + (k : Int)).any f := by
    intro n
    induction n with
    | zero => rfl
    | succ n ih => rw [List.range_succ, List.map_append, List.any_append, ← ih]; simp [anyTo]
  rw [rangeL_len]
  exact h _
theorem fine_ge {b : Bl} {w : Wi} {off c : Int} {i : Nat} (h : ¬ i < 2) (p : Int) : fineR b w off c i p = panS w i p c := by unfold fineR; rw [if_neg h]
theorem may_end {E : Nat → Bool} {Q : Nat → Bool} (hs : ∀ j, j < 4 → E (j + 1) = Q j) {i : Nat} (hi : i ≤ 4) (ha : ∀ j, j < i → E j = true) (hc : (decide ((i : Int) < 4) && E i) = false) : (E 0 && (List.range 4).all Q) = E i := by
  have hr : (List.range 4).all Q = (E 1 && (E 2 && (E 3 && E 4))) := by
    rw [hs 0 (by decide), hs 1 (by decide), hs 2 (by decide), hs 3 (by decide)]
    simp [List.range, List.range.loop]
  rw [hr]
  match i, hi with
  | 0, _ => have h0 : E 0 = false := by simpa using hc
            rw [h0]; rfl
  | 1, _ => have h1 : E 1 = false := by simpa using hc
            rw [h1]; simp
  | 2, _ => have h2 : E 2 = false := by simpa using hc
            rw [h2]; simp
  | 3, _ => have h3 : E 3 = false := by simpa using hc
            rw [h3]; simp
  | 4, _ => rw [ha 0 (by decide), ha 1 (by decide), ha 2 (by decide), ha 3 (by decide)]; rfl
theorem may_fns {b : Bl} (hck : checkErr b = 0) {off : Int} (ho : 0 ≤ off) (w : Wi) (c : Int) :
    ∃ (H1 H2 : Int) (Lo Up : Nat → Int) (Ao : Nat → Bool) (Bo : Nat → Nat → Bool) (Eo : Nat → Bool), (1 ≤ H1 ∧ H2 ≤ 3000 ∧ H1 ≤ H2) ∧ (∀ i, i < 4 → 1 ≤ Lo i ∧ Up i ≤ 3000 ∧ Lo i ≤ Up i) ∧ aroundL b.height off 1 = rangeL H1 H2 ∧ (∀ i, i < 4 → aroundL (b.panels.getD i 0) off 1 = rangeL (Lo i) (Up i)) ∧
      Ao 0 = false ∧ (∀ j, Ao (j + 1) = (Ao j || highS b.isOpen w (H1 + (j : Int)) c)) ∧ (∀ i, Bo i 0 = false) ∧ (∀ i k, Bo i (k + 1) = (Bo i k || fineR b w off c i (Lo i + (k : Int)))) ∧
      (Eo 0 = Ao (rangeL H1 H2).length) ∧ (∀ i, i < 4 → Eo (i + 1) = Bo i (rangeL (Lo i) (Up i)).length) ∧
      ∀ i, i ≤ 4 → (∀ j, j < i → Eo j = true) → (decide ((i : Int) < 4) && Eo i) = false → ((aroundL b.height off 1).any (fun h => highS b.isOpen w h c) && (List.range 4).all fun i => (aroundL (b.panels.getD i 0) off 1).any (fineR b w off c i)) = Eo i := by
  have gh := (good_nums hck).2.2.2.1
  refine ⟨max 1 (b.height - off), min 3000 (b.height + off), fun i => max 1 (b.panels.getD i 0 - off), fun i => min 3000 (b.panels.getD i 0 + off), anyTo (fun h => highS b.isOpen w h c) (max 1 (b.height - off)),
    fun i => anyTo (fineR b w off c i) (max 1 (b.panels.getD i 0 - off)), fun i => match i with | 0 => (aroundL b.height off 1).any fun h => highS b.isOpen w h c | i + 1 => (aroundL (b.panels.getD i 0) off 1).any (fineR b w off c i),
    ⟨by omega, by omega, by omega⟩, fun i hi => by have := (psIn_b hck).2 i hi; exact ⟨by show 1 ≤ max 1 (b.panels.getD i 0 - off); omega, by show min 3000 (b.panels.getD i 0 + off) ≤ 3000; omega, by show max 1 (b.panels.getD i 0 - off) ≤ min 3000 (b.panels.getD i 0 + off); omega⟩, rfl, fun i _ => rfl, rfl, fun j => rfl, fun i => rfl, fun i k => rfl, (anyTo_all _ _ _).symm, fun i _ => (anyTo_all _ _ _).symm, ?_⟩
  exact fun i hi ha hc => may_end (fun j _ => rfl) hi ha hc
theorem mayR_1 {b : Bl} {w : Wi} {off c : Int} (h : (!(holdsR b w 5 c) && (b.isOpen || w.isOpen)) = true) : mayR b w off c = false := by unfold mayR; rw [if_pos h]
theorem mayR_2 {b : Bl} {w : Wi} {off c : Int} (h : (!(holdsR b w 5 c) && (b.isOpen || w.isOpen)) = false) (h2 : (!(decide (c ≤ 1000 * min 20 (b.slot + off)))) = true) : mayR b w off c = false := by unfold mayR; rw [if_neg (by rw [h]; exact Bool.false_ne_true), if_pos h2]
theorem mayR_3 {b : Bl} {w : Wi} {off c : Int} (h : (!(holdsR b w 5 c) && (b.isOpen || w.isOpen)) = false) (h2 : (!(decide (c ≤ 1000 * min 20 (b.slot + off)))) = false) : mayR b w off c = ((aroundL b.height off 1).any (fun h => highS b.isOpen w h c) && (List.range 4).all fun i => (aroundL (b.panels.getD i 0) off 1).any (fineR b w off c i)) := by
  unfold mayR; rw [if_neg (by rw [h]; exact Bool.false_ne_true), if_neg (by rw [h2]; exact Bool.false_ne_true)]
theorem up_to {f : Nat → Bool} {i : Nat} (h : ∀ j, j < i → f j = true) (hi : f i = true) : ∀ j, j < i + 1 → f j = true := fun j hj => by
  rcases Nat.lt_or_ge j i with h' | h'
  · exact h j h'
  · obtain rfl : j = i := by omega
    exact hi
theorem hold5 {b : Bl} {w : Wi} {c : Int} (e : b.isOpen = false) (h : (!(holdsR b w 5 c) && (b.isOpen || w.isOpen)) = false) : w.isOpen = false := by
  cases hw : w.isOpen
  · rfl
  · have : holdsR b w 5 c = false := by show (if (b.isOpen || w.isOpen) = true then (b.isOpen && w.isOpen) else _) = false; rw [e, hw]; rfl
    rw [this, e, hw] at h; exact h
end Go.Proofs.YthnediamopehfaaGreat
