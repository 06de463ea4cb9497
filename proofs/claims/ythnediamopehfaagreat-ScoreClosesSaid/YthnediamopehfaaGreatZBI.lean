/- Part of the proof: what the claim leans on. -/
import Derived.Test.YthnediamopehfaaGreatZBH
import Derived.Test.YthnediamopehfaaGreatZBE
import Derived.Test.YthnediamopehfaaGreatZBC
import Derived.Test.YthnediamopehfaaGreatZAK
import Derived.Test.YthnediamopehfaaGreatZBA
set_option linter.unusedSimpArgs false
set_option linter.unusedVariables false
namespace Go.Proofs.YthnediamopehfaaGreat
open Go.RowKit
theorem wishR_eq (w : Wi) : wishR w = wishErr w := by
  unfold wishR wishErr wishRB
  simp only [spanR_eq]
  cases isSpan w.length 0 3000 <;> cases isSpan w.width 0 3000 <;> cases isSpan w.height 0 3000 <;> cases isSpan w.outer (-3000) 3000 <;> cases isSpan w.inner (-3000) 3000 <;> rfl
theorem askedR_eq (b : Bl) (w : Wi) (s : Sp) : askedR b w s = wishedErr b w [s] := by
  unfold askedR wishedErr checkedErr
  rw [refCheck_eq, wishR_eq, spanR_eq]
  by_cases h1 : checkErr b = 0
  · by_cases h2 : wishErr w = 0
    · simp [h1, h2]
    · simp [h1, h2]
  · simp [h1]
theorem wishedErr_one (b : Bl) (w : Wi) : wishedErr b w [(1, 1)] = wishedErr b w [] := by
  unfold wishedErr checkedErr
  have : isSpan (1, 1) 1 10000 = true := by decide
  simp [this]
theorem wished_parts {b : Bl} {w : Wi} {l : List Sp} (h : wishedErr b w l = 0) : checkErr b = 0 ∧ wishErr w = 0 := by
  unfold wishedErr at h
  split at h
  · rename_i h1
    split at h
    · rename_i h2; exact ⟨h1, h2⟩
    · rename_i h2; exact absurd h h2
  · rename_i h1; exact absurd h h1
theorem wished_span {b : Bl} {w : Wi} {s : Sp} (h : wishedErr b w [s] = 0) : isSpan s 1 10000 = true := by
  obtain ⟨h1, h2⟩ := wished_parts h
  unfold wishedErr checkedErr at h
  rw [if_pos h1, if_pos h2] at h
  by_cases e : isSpan s 1 10000 = true
  · exact e
  · simp [e] at h
theorem holdsR_iff {b : Bl} {w : Wi} {k : Nat} {c : Int} (hk : k < 10) (h1 : 1 ≤ c) (h2 : c ≤ 10000) : holdsR b w k c = true ↔ (holdsOf b w k).1 ≤ c ∧ c ≤ (holdsOf b w k).2 := by
  have hu : ∀ n : Int, upI n 1 = n := fun n => by unfold upI; omega
  have hd : ∀ n : Int, downI n 1 = n := fun n => by unfold downI; omega
  match k, hk with
  | 0, _ => simp [holdsR, fitsR, inB, panR, holdsOf, amongOf, both, every, hu, hd, meas, measOf, targetOf]; omega
  | 1, _ => simp [holdsR, fitsR, inB, panR, holdsOf, amongOf, both, every, hu, hd, meas, measOf, targetOf]; omega
  | 2, _ => simp [holdsR, fitsR, inB, panR, holdsOf, amongOf, both, every, hu, hd, meas, measOf, targetOf]; omega
  | 3, _ => simp [holdsR, fitsR, inB, panR, holdsOf, amongOf, both, every, hu, hd, meas, measOf, targetOf]; omega
  | 4, _ =>
    cases ho : b.isOpen with
    | true => simp [holdsR, fitsR, inB, heightR, holdsOf, amongOf, both, every, hu, hd, meas, measOf, targetOf, ho, foldsOf]; omega
    | false => simp [holdsR, fitsR, inB, heightR, holdsOf, amongOf, both, every, upI, downI, meas, measOf, targetOf, ho, foldsOf]; omega
  | 5, _ =>
    cases ho : b.isOpen <;> cases hwo : w.isOpen <;> simp [holdsR, fitsR, inB, gapR, flapR, panR, holdsOf, amongOf, both, every, hu, hd, meas, measOf, targetOf, ho, hwo] <;> omega
  | 6, _ =>
    cases ho : b.isOpen <;> cases hwo : w.isOpen <;> simp [holdsR, fitsR, inB, gapR, flapR, panR, holdsOf, amongOf, both, every, hu, hd, meas, measOf, targetOf, ho, hwo] <;> omega
  | 7, _ => simp [holdsR, fitsR, inB, gapR, flapR, panR, holdsOf, amongOf, both, every, hu, hd, meas, measOf, targetOf]; omega
  | 8, _ => simp [holdsR, fitsR, inB, gapR, flapR, panR, holdsOf, amongOf, both, every, hu, hd, meas, measOf, targetOf]; omega
  | 9, _ => simp [holdsR, holdsOf, both, every]; omega
theorem holdsOf_lim (b : Bl) (w : Wi) (k : Nat) : 1 ≤ (holdsOf b w k).1 ∧ (holdsOf b w k).2 ≤ 10000 := by
  unfold holdsOf
  split
  · simp only [both, every]; omega
  · split
    · split
      · simp
      · simp [every]
    · simp only [amongOf, both, every]; omega
theorem allTo_in (b : Bl) (w : Wi) : ∀ n, 1 ≤ (allTo b w n).1 ∧ (allTo b w n).2 ≤ 10000
  | 0 => by simp [allTo, every]
  | n + 1 => by
    have := allTo_in b w n
    simp only [allTo, both]; omega
theorem allTo_iff (b : Bl) (w : Wi) (c : Int) (h1 : 1 ≤ c) (h2 : c ≤ 10000) : ∀ n, (∀ k, k < n → (holdsOf b w k).1 ≤ c ∧ c ≤ (holdsOf b w k).2) ↔ (allTo b w n).1 ≤ c ∧ c ≤ (allTo b w n).2
  | 0 => by simp [allTo, every]; omega
  | n + 1 => by
    have ih := allTo_iff b w c h1 h2 n
    simp only [allTo, both]
    constructor
    · intro h
      have hn := h n (Nat.lt_succ_self n)
      have := ih.1 fun k hk => h k (Nat.lt_succ_of_lt hk)
      omega
    · intro h k hk
      rcases Nat.lt_or_ge k n with hlt | hge
      · exact ih.2 (by omega) k hlt
      · obtain rfl : k = n := by omega
        omega
theorem closesR_iff {b : Bl} {w : Wi} {c : Int} (h1 : 1 ≤ c) (h2 : c ≤ 10000) : closesR b w c = true ↔ (allTo b w 10).1 ≤ c ∧ c ≤ (allTo b w 10).2 := by
  rw [← allTo_iff b w c h1 h2 10]
  unfold closesR
  rw [List.all_eq_true]
  constructor
  · intro h k hk; exact (holdsR_iff hk h1 h2).1 (h k (List.mem_range.2 hk))
  · intro h k hk; exact (holdsR_iff (List.mem_range.1 hk) h1 h2).2 (h k (List.mem_range.1 hk))
theorem calTo_eq (b : Bl) (w : Wi) : ∀ n : Nat, n ≤ 10000 → calTo b w n = if (allTo b w 10).1 ≤ min (n : Int) (allTo b w 10).2 then (((allTo b w 10).1, min (n : Int) (allTo b w 10).2), true) else ((0, 0), false)
  | 0, _ => by
    have := allTo_in b w 10
    rw [if_neg (by omega)]; rfl
  | n + 1, hn => by
    have ih := calTo_eq b w n (by omega)
    have hb := allTo_in b w 10
    have hi := closesR_iff (b := b) (w := w) (c := (n : Int) + 1) (by omega) (by omega)
    unfold calTo
    rw [ih]
    by_cases hc : (allTo b w 10).1 ≤ (n : Int) + 1 ∧ (n : Int) + 1 ≤ (allTo b w 10).2
    · rw [if_pos (hi.2 hc), if_pos (by omega : (allTo b w 10).1 ≤ min ((n + 1 : Nat) : Int) (allTo b w 10).2)]
      by_cases h2 : (allTo b w 10).1 ≤ min (n : Int) (allTo b w 10).2
      · rw [if_pos h2]
        simp only [if_true]
        rw [show min ((n + 1 : Nat) : Int) (allTo b w 10).2 = (n : Int) + 1 from by omega]
      · rw [if_neg h2]
        simp only [Bool.false_eq_true, if_false]
        rw [show min ((n + 1 : Nat) : Int) (allTo b w 10).2 = (n : Int) + 1 from by omega, show (allTo b w 10).1 = (n : Int) + 1 from by omega]
    · rw [if_neg (fun h => hc (hi.1 h))]
      by_cases h2 : (allTo b w 10).1 ≤ min (n : Int) (allTo b w 10).2
      · rw [if_pos h2, if_pos (by omega), show min ((n + 1 : Nat) : Int) (allTo b w 10).2 = min (n : Int) (allTo b w 10).2 from by omega]
      · rw [if_neg h2, if_neg (by omega)]
/-- The calipers with which a blank closes. -/
theorem calR_eq {b : Bl} {w : Wi} (h : wishedErr b w [] = 0) : calTo b w 10000 = (calOf b w, calErr b w == 0) := by
  have hb := allTo_in b w 10
  rw [calTo_eq b w 10000 (Nat.le_refl _)]
  unfold calOf calErr
  rw [if_pos h]
  by_cases h2 : (allTo b w 10).1 > (allTo b w 10).2
  · rw [if_neg (by omega), if_pos h2]; rfl
  · rw [if_pos (by omega), if_neg h2]
    simp only [if_true]
    rw [show min ((10000 : Nat) : Int) (allTo b w 10).2 = (allTo b w 10).2 from by omega]; rfl
theorem calErr_or {b : Bl} {w : Wi} (h : wishedErr b w [] = 0) : calErr b w = 0 ∨ calErr b w = 7 := by
  unfold calErr
  rw [if_pos h]
  split
  · exact .inr rfl
  · exact .inl rfl
theorem calOf_bad {b : Bl} {w : Wi} (h : calErr b w ≠ 0) : calOf b w = (0, 0) := by unfold calOf; rw [if_neg h]
theorem badR_eq {b : Bl} {w : Wi} {lo hi : Int} (h1 : 1 ≤ lo) (h2 : hi ≤ 10000) {k : Nat} (hk : k < 10) : badR b w (lo, hi) k = badOf b w (lo, hi) k := by
  have hin := holdsOf_lim b w k
  unfold badR badOf
  simp only
  by_cases hc : (holdsOf b w k).1 ≤ lo ∧ lo ≤ (holdsOf b w k).2
  · rw [if_pos hc]
    have hup : ∀ d, lo ≤ d → d < (holdsOf b w k).2 + 1 → holdsR b w k d = true := fun d h3 h4 => (holdsR_iff hk (by omega) (by omega)).2 ⟨by omega, by omega⟩
    by_cases h3 : (holdsOf b w k).2 + 1 ≤ hi
    · rw [if_pos h3, firstB_some (c := (holdsOf b w k).2 + 1) ?_ _ _ hup (by omega) (by omega)]
      · rfl
      · cases e : holdsR b w k ((holdsOf b w k).2 + 1) with
        | false => rfl
        | true => have := (holdsR_iff hk (by omega) (by omega)).1 e; omega
    · rw [if_neg h3, firstB_none _ _ fun d h4 h5 => hup d h4 (by omega)]; rfl
  · rw [if_neg hc]
    by_cases h3 : lo ≤ hi
    · rw [if_pos h3, firstB_some (c := lo) ?_ _ _ (fun d h4 h5 => by omega) (by omega) (by omega)]
      · rfl
      · cases e : holdsR b w k lo with
        | false => rfl
        | true => exact absurd ((holdsR_iff hk (by omega) (by omega)).1 e) hc
    · rw [if_neg h3, firstB_none _ _ fun d h4 h5 => by omega]; rfl
theorem closeR_eq {b : Bl} {w : Wi} {lo hi : Int} (h1 : 1 ≤ lo) (h2 : hi ≤ 10000) : closeR b w (lo, hi) = closeL b w (lo, hi) := by
  unfold closeR closeL closeRTo closeTo
  have : ∀ l : List Nat, (∀ k ∈ l, k < 10) → l.filterMap (badR b w (lo, hi)) = l.filterMap (badOf b w (lo, hi)) := by
    intro l
    induction l with
    | nil => intro _; rfl
    | cons x r ih =>
      intro h
      rw [List.filterMap_cons, List.filterMap_cons, badR_eq h1 h2 (h x (by simp)), ih fun k hk => h k (by simp [hk])]
  exact this _ fun k hk => List.mem_range.1 hk
end Go.Proofs.YthnediamopehfaaGreat
namespace Go.Proofs.YthnediamopehfaaGreat
open Go.RowKit
theorem pp_get {W : World} {aa : Option Addr} {a o n c : Nat} {xs : List Sp} (h : Pp W aa n c xs) (ha : aa = some ⟨a, o, none⟩) {i : Nat} (hi : i < xs.length) :
    W.cell? ⟨a, o + i * 2, none⟩ = some (.int .i64 (xs.getD i (0, 0)).1) ∧ W.cell? ⟨a, o + i * 2 + 1, none⟩ = some (.int .i64 (xs.getD i (0, 0)).2) := by
  subst ha
  obtain ⟨b, off, e', -, hc⟩ := h.at (by omega)
  cases e'
  exact hc i hi
theorem Pp.otherA {W W' : World} {a : Option Addr} {n c b : Nat} {xs : List Sp} (h : Pp W a n c xs) (hot : ∀ k x, k ≠ b → W.heap[k]? = some x → W'.heap[k]? = some x) (hne : ∀ g o, a = some ⟨g, o, none⟩ → xs ≠ [] → g ≠ b) (hz : W.heap.size ≤ W'.heap.size) : Pp W' a n c xs := by
  rcases h.2.2.2.2 with h4 | ⟨g, o, e, hl, -⟩
  · exact ⟨h.1, h.2.1, h.2.2.1, h.2.2.2.1, .inl h4⟩
  · subst e
    by_cases hx : xs = []
    · subst hx
      exact ⟨h.1, h.2.1, h.2.2.1, h.2.2.2.1, .inl rfl⟩
    · exact h.other hot hl (hne g o rfl hx) hz
theorem isPp_of {W : World} {a : Option Addr} {n c : Nat} {l : List Sp} (h : Pp W a n c l) : IsPp l (.slice a n c) W := by
  obtain rfl := h.1
  exact ⟨a, c, rfl, h⟩
theorem Pp.lim {W : World} {a : Option Addr} {n c : Nat} {xs : List Sp} (h : Pp W a n c xs) : ∀ g o, a = some ⟨g, o, none⟩ → xs ≠ [] → g < W.heap.size := by
  intro g o e hne
  obtain ⟨b, off, e', hl, -⟩ := h.at (List.length_pos_iff.2 hne)
  rw [e] at e'
  cases e'
  exact hl
theorem Pp.len_le {W : World} {a : Option Addr} {n c : Nat} {xs : List Sp} (h : Pp W a n c xs) : (xs.length : Int) ≤ 9223372036854775807 := by
  have h1 := h.1; have h2 := h.2.1; have h3 := h.2.2.1
  unfold maxLen at h3
  omega
theorem Pp.at' {W : World} {a : Option Addr} {n c : Nat} {xs : List Sp} (h : Pp W a n c xs) (hne : 0 < xs.length) : ∃ b off, a = some ⟨b, off, none⟩ := by
  obtain ⟨b, off, e, -⟩ := h.at hne
  exact ⟨b, off, e⟩
end Go.Proofs.YthnediamopehfaaGreat
