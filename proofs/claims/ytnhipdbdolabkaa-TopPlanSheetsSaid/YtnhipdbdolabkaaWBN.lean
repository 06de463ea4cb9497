/- Part of the proof: what the claim leans on. -/
import Derived.Test.YtnhipdbdolabkaaWBJ
import Derived.Test.YtnhipdbdolabkaaWAZ
import Derived.Test.YtnhipdbdolabkaaWBA
set_option linter.unusedSimpArgs false
set_option linter.unusedVariables false
namespace Go.Proofs.Ytnhipdbdolabkaa
open Go.RowKit
theorem elT_left {xs ys : List Int} {i : Nat} (h : i < xs.length) : elT (xs ++ ys) i = elT xs i := by
  unfold elT
  rw [List.getD_eq_getElem?_getD, List.getD_eq_getElem?_getD, List.getElem?_append_left h]
theorem patL_pre {p : Tp} {os : Nat → To} {no : Nat} : ∀ (d : Nat) (xs : List Int), ∀ ys ∈ patL p os no d xs, ∃ t, ys = xs ++ t
  | 0, xs, ys, h => by
    unfold patL at h
    split at h
    · exact ⟨[], by rw [List.mem_singleton.1 h, List.append_nil]⟩
    · cases h
  | d + 1, xs, ys, h => by
    unfold patL at h
    obtain ⟨k, _, h⟩ := List.mem_flatMap.1 h
    obtain ⟨t, e⟩ := patL_pre d _ ys h
    exact ⟨(k : Int) :: t, by rw [e, List.append_assoc]; rfl⟩
theorem patL_lex (p : Tp) (os : Nat → To) (no : Nat) : ∀ (d : Nat) (xs : List Int), (patL p os no d xs).Pairwise (fun a b => LexLt a b (xs.length + d))
  | 0, xs => by
    unfold patL
    split
    · exact List.pairwise_singleton _ _
    · exact List.Pairwise.nil
  | d + 1, xs => by
    unfold patL
    rw [List.pairwise_flatMap]
    refine ⟨fun n _ => ?_, ?_⟩
    · have h := patL_lex p os no d (xs ++ [(n : Int)])
      rw [List.length_append, List.length_singleton, Nat.add_assoc, Nat.add_comm 1 d] at h
      exact h
    · refine List.pairwise_lt_range.imp fun {a b} hab y hy z hz => ?_
      obtain ⟨t, rfl⟩ := patL_pre d _ y hy
      obtain ⟨u, rfl⟩ := patL_pre d _ z hz
      refine ⟨xs.length, by omega, fun i hi => ?_, ?_⟩
      · rw [List.append_assoc, List.append_assoc, elT_left hi, elT_left hi]
      · have e : ∀ (x : Int) (t : List Int), elT (xs ++ [x] ++ t) xs.length = x := fun x t => by
          rw [elT_left (by rw [List.length_append]; exact Nat.lt_succ_self _)]
          unfold elT
          rw [List.getD_eq_getElem?_getD, List.getElem?_concat_length]; rfl
        rw [e, e]; omega
theorem webL_at {L : List (List Int)} {i : Nat} (h : i < L.length) : webL L i = L[i] := by
  unfold webL; rw [List.getD_eq_getElem?_getD, List.getElem?_eq_getElem h]; rfl
theorem webL_lex {p : Tp} {os : Nat → To} {i j : Nat} (hij : i < j) (hj : j < (patL p os 3 3 []).length) : LexLt (webL (patL p os 3 3 []) i) (webL (patL p os 3 3 []) j) 3 := by
  rw [webL_at (by omega), webL_at hj]
  exact List.pairwise_iff_getElem.1 (patL_lex p os 3 3 []) i j (by omega) hj hij
theorem wr_iff (os : Nat → To) (gs : List Int) : wrF os gs 3 0 < 0 ↔ ∀ i, i < 3 → (os i).lo ≤ elT gs i ∧ elT gs i ≤ (os i).hi := by
  have hb : ∀ i, obdF os gs i = false ↔ ((os i).lo ≤ elT gs i ∧ elT gs i ≤ (os i).hi) := fun i => by
    unfold obdF; rw [Bool.not_eq_false', within1_iff]
  constructor
  · intro h
    rw [wrF] at h
    split at h
    · exact absurd h (by decide)
    · rename_i h0
      rw [wrF] at h
      split at h
      · exact absurd h (by decide)
      · rename_i h1
        rw [wrF] at h
        split at h
        · exact absurd h (by decide)
        · rename_i h2
          intro i hi
          match i, hi with
          | 0, _ => exact (hb 0).1 (Bool.eq_false_iff.2 h0)
          | 1, _ => exact (hb 1).1 (Bool.eq_false_iff.2 h1)
          | 2, _ => exact (hb 2).1 (Bool.eq_false_iff.2 h2)
  · intro h
    rw [wrF, (hb 0).2 (h 0 (by decide)), if_neg (by decide), wrF, (hb 1).2 (h 1 (by decide)), if_neg (by decide), wrF, (hb 2).2 (h 2 (by decide)), if_neg (by decide)]
    show (-1 : Int) < 0; decide
theorem wr_neg {os : Nat → To} {gs : List Int} (h : wrF os gs 3 0 < 0) : wrF os gs 3 0 = -1 := by
  have := wrF_bd os gs 3 0; omega
theorem room_in {os : Nat → To} {gs xs : List Int} {r : Int} (hr : 1 ≤ r ∧ r ≤ 30) (hx : ∀ i, 0 ≤ elT xs i) (hh : ∀ i, i < 3 → elT gs i + elT xs i * r ≤ (os i).hi) : ∀ k, k ≤ 3 → ∃ h, roomS os gs xs false k = some (1, h) ∧ r ≤ h
  | 0, _ => ⟨30, rfl, hr.2⟩
  | k + 1, hk => by
    obtain ⟨h, e, h1⟩ := room_in (os := os) hr hx hh k (by omega)
    rw [roomS, e]
    have hq := hh k (by omega); have hxk := hx k
    show ∃ h', (if 0 < elT xs k then some (if false = true then max 1 (((os k).lo - elT gs k + elT xs k - 1).tdiv (elT xs k)) else 1, min h (((os k).hi - elT gs k).tdiv (elT xs k))) else if (false && decide (elT gs k < (os k).lo)) = true then none else some (1, h)) = some (1, h') ∧ r ≤ h'
    by_cases h0 : 0 < elT xs k
    · rw [if_pos h0]
      refine ⟨_, rfl, ?_⟩
      have hm : 0 ≤ elT xs k * r := Int.mul_nonneg hxk (by omega)
      have hd : r ≤ ((os k).hi - elT gs k).tdiv (elT xs k) := by
        rw [Int.tdiv_eq_ediv_of_nonneg (by omega)]
        exact Int.le_ediv_of_mul_le h0 (by rw [Int.mul_comm]; omega)
      omega
    · rw [if_neg h0]; exact ⟨h, rfl, h1⟩
theorem room_last {os : Nat → To} {gs xs : List Int} {r : Int} (hr : 1 ≤ r ∧ r ≤ 30) (hx : ∀ i, 0 ≤ elT xs i) (hh : ∀ i, i < 3 → (os i).lo ≤ elT gs i + elT xs i * r ∧ elT gs i + elT xs i * r ≤ (os i).hi) : ∀ k, k ≤ 3 → ∃ l h, roomS os gs xs true k = some (l, h) ∧ 1 ≤ l ∧ l ≤ r ∧ r ≤ h ∧ ∀ j, j < k → (os j).lo ≤ elT gs j + elT xs j * l
  | 0, _ => ⟨1, 30, rfl, by omega, hr.1, hr.2, fun j h => absurd h (Nat.not_lt_zero _)⟩
  | k + 1, hk => by
    obtain ⟨l, h, e, h1, h2, h3, h4⟩ := room_last hr hx hh k (by omega)
    rw [roomS, e]
    have hq := hh k (by omega); have hxk := hx k
    show ∃ l' h', (if 0 < elT xs k then some (if true = true then max l (((os k).lo - elT gs k + elT xs k - 1).tdiv (elT xs k)) else l, min h (((os k).hi - elT gs k).tdiv (elT xs k))) else if (true && decide (elT gs k < (os k).lo)) = true then none else some (l, h)) = some (l', h') ∧ 1 ≤ l' ∧ l' ≤ r ∧ r ≤ h' ∧ ∀ j, j < k + 1 → (os j).lo ≤ elT gs j + elT xs j * l'
    by_cases h0 : 0 < elT xs k
    · rw [if_pos h0, if_pos rfl]
      have hm : 0 ≤ elT xs k * r := Int.mul_nonneg hxk (by omega)
      have hd : r ≤ ((os k).hi - elT gs k).tdiv (elT xs k) := by
        rw [Int.tdiv_eq_ediv_of_nonneg (by omega)]
        exact Int.le_ediv_of_mul_le h0 (by rw [Int.mul_comm]; omega)
      have hc : ((os k).lo - elT gs k + elT xs k - 1).tdiv (elT xs k) ≤ r ∧ (os k).lo - elT gs k ≤ elT xs k * max l (((os k).lo - elT gs k + elT xs k - 1).tdiv (elT xs k)) := by
        by_cases h5 : 0 ≤ (os k).lo - elT gs k + elT xs k - 1
        · rw [Int.tdiv_eq_ediv_of_nonneg h5]
          have a1 := Int.mul_ediv_add_emod ((os k).lo - elT gs k + elT xs k - 1) (elT xs k)
          have a2 := Int.emod_lt_of_pos ((os k).lo - elT gs k + elT xs k - 1) h0
          refine ⟨?_, ?_⟩
          · refine Int.lt_add_one_iff.1 (Int.ediv_lt_of_lt_mul h0 ?_)
            rw [Int.add_mul, Int.one_mul, Int.mul_comm]; omega
          · refine Int.le_trans ?_ (Int.mul_le_mul_of_nonneg_left (Int.le_max_right _ _) hxk)
            omega
        · have a1 : ((os k).lo - elT gs k + elT xs k - 1).tdiv (elT xs k) ≤ 0 := by
            have := Int.neg_tdiv (a := -((os k).lo - elT gs k + elT xs k - 1)) (b := elT xs k)
            rw [Int.neg_neg] at this
            rw [this, Int.tdiv_eq_ediv_of_nonneg (by omega)]
            have := Int.ediv_nonneg (show 0 ≤ -((os k).lo - elT gs k + elT xs k - 1) by omega) (show 0 ≤ elT xs k by omega)
            omega
          have a2 : 0 ≤ elT xs k * max l (((os k).lo - elT gs k + elT xs k - 1).tdiv (elT xs k)) := Int.mul_nonneg hxk (by omega)
          omega
      refine ⟨_, _, rfl, by omega, by omega, by omega, fun j hj => ?_⟩
      rcases Nat.lt_or_ge j k with h6 | h6
      · have := Int.mul_le_mul_of_nonneg_left (Int.le_max_left l (((os k).lo - elT gs k + elT xs k - 1).tdiv (elT xs k))) (hx j)
        have := h4 j h6; omega
      · obtain rfl : j = k := by omega
        omega
    · have e0 : elT xs k = 0 := by omega
      rw [e0, Int.zero_mul] at hq
      rw [if_neg h0, if_neg (by simp; omega)]
      refine ⟨l, h, rfl, h1, h2, h3, fun j hj => ?_⟩
      rcases Nat.lt_or_ge j k with h6 | h6
      · exact h4 j h6
      · obtain rfl : j = k := by omega
        rw [e0, Int.zero_mul]; omega
theorem forI_mono {f : Nat → Se → Se} {i : Nat} (hm : ∀ k s, s.found = true → (f k s).found = true) (c : Nat) {s : Se} (h : s.found = true) : (forI f i c s).found = true :=
  forI_inv (fun s => s.found = true) c s (fun k s _ h => hm _ s h) h
theorem forR_mono {f : Int → Se → Se} {l : Int} (hm : ∀ k s, s.found = true → (f k s).found = true) (c : Nat) {s : Se} (h : s.found = true) : (forR f l c s).found = true :=
  forR_inv (fun s => s.found = true) c s (fun k s _ h => hm _ s h) h
theorem tryF_mono (p : Tp) (os : Nat → To) (L : List (List Int)) : ∀ (m : Nat) (pl : List (Nat × Int)) (fr : Nat) (wa : Int) (gs : List Int) (s : Se), s.found = true → (tryF p os 3 L m pl fr wa gs s).found = true
  | 0, pl, fr, wa, gs, s, h => by unfold tryF; split <;> first | rfl | exact h
  | m + 1, pl, fr, wa, gs, s, h => by
    unfold tryF; split
    · exact h
    · exact forI_mono (fun k s h => forR_mono (fun r s h => tryF_mono p os L m _ _ _ _ s h) _ h) _ h
theorem forI_hit {f : Nat → Se → Se} {i : Nat} (hm : ∀ k s, s.found = true → (f k s).found = true) : ∀ (c : Nat) (s : Se) (j : Nat), j < c → (∀ s, (f (i + j) s).found = true) → (forI f i c s).found = true
  | 0, s, j, h, _ => absurd h (Nat.not_lt_zero _)
  | c + 1, s, j, h, hh => by
    rw [forI]
    rcases Nat.lt_or_ge j c with h1 | h1
    · exact hm _ _ (forI_hit hm c s j h1 hh)
    · obtain rfl : j = c := by omega
      exact hh _
theorem forR_hit {f : Int → Se → Se} {l : Int} (hm : ∀ k s, s.found = true → (f k s).found = true) : ∀ (c : Nat) (s : Se) (j : Nat), j < c → (∀ s, (f (l + (j : Int)) s).found = true) → (forR f l c s).found = true
  | 0, s, j, h, _ => absurd h (Nat.not_lt_zero _)
  | c + 1, s, j, h, hh => by
    rw [forR]
    rcases Nat.lt_or_ge j c with h1 | h1
    · exact hm _ _ (forR_hit hm c s j h1 hh)
    · obtain rfl : j = c := by omega
      exact hh _
theorem try0_hit {p : Tp} {os : Nat → To} {L : List (List Int)} {pl : List (Nat × Int)} {fr : Nat} {wa : Int} {gs : List Int} (h : wrF os gs 3 0 < 0) (s : Se) : (tryF p os 3 L 0 pl fr wa gs s).found = true := by
  unfold tryF
  rw [decide_eq_true h, Bool.true_and]
  split
  · rfl
  · rename_i h1
    simp only [Bool.or_eq_true, Bool.not_eq_true', not_or, Bool.not_eq_false] at h1
    exact h1.1
theorem tryS_hit {p : Tp} {os : Nat → To} {L : List (List Int)} {m : Nat} {pl : List (Nat × Int)} {fr : Nat} {wa : Int} {gs : List Int} (i : Nat) (hi : fr ≤ i ∧ i < L.length) (j : Nat) (hj : j < runN (roomF os gs (webL L i) (m == 0) 3) (m == 0))
    (h : ∀ s, (tryF p os 3 L m (pl ++ [(i, (roomF os gs (webL L i) (m == 0) 3).1 + (j : Int))]) (i + 1) (wa + leftF p os (webL L i) 3 * ((roomF os gs (webL L i) (m == 0) 3).1 + (j : Int))) (addK gs (webL L i) ((roomF os gs (webL L i) (m == 0) 3).1 + (j : Int)) 3) s).found = true) (s : Se) : (tryF p os 3 L (m + 1) pl fr wa gs s).found = true := by
  rw [tryF]
  split
  · rename_i h1
    rw [Bool.and_eq_true] at h1; exact h1.1
  · refine forI_hit (fun k s h => forR_mono (fun r s h => tryF_mono p os L m _ _ _ _ s h) _ h) _ _ (i - fr) (by omega) fun s => ?_
    rw [show fr + (i - fr) = i by omega]
    exact forR_hit (fun r s h => tryF_mono p os L m _ _ _ _ s h) _ _ j hj h
/-- Where a set-up would do as the last one, one is found. -/
theorem try1_hit {p : Tp} {os : Nat → To} {L : List (List Int)} {pl : List (Nat × Int)} {fr : Nat} {wa : Int} {gs : List Int} (hg : gs.length = 3) (i : Nat) (hi : fr ≤ i ∧ i < L.length) {r : Int} (hr : 1 ≤ r ∧ r ≤ 30) (hx : ∀ k, 0 ≤ elT (webL L i) k) (hh : ∀ k, k < 3 → (os k).lo ≤ elT gs k + elT (webL L i) k * r ∧ elT gs k + elT (webL L i) k * r ≤ (os k).hi) (s : Se) : (tryF p os 3 L 1 pl fr wa gs s).found = true := by
  obtain ⟨l, h, e, h1, h2, h3, h4⟩ := room_last hr hx hh 3 (Nat.le_refl _)
  have e2 : roomF os gs (webL L i) ((0 : Nat) == 0) 3 = (l, h) := by unfold roomF; rw [show ((0 : Nat) == 0) = true from rfl, e]; rfl
  refine tryS_hit i hi 0 (by rw [e2]; show 0 < min 1 (h - l + 1).toNat; omega) (fun s => try0_hit ?_ s) s
  rw [e2]
  refine (wr_iff _ _).2 fun k hk => ?_
  rw [addK_at _ _ _ _ _ (by omega), if_pos hk]
  have a1 := h4 k hk; have a2 := hh k hk
  have a3 := Int.mul_le_mul_of_nonneg_left h2 (hx k)
  show _ ≤ elT gs k + elT (webL L i) k * (l + ((0 : Nat) : Int)) ∧ _
  rw [show (l + ((0 : Nat) : Int)) = l by omega]
  omega
theorem try2_hit {p : Tp} {os : Nat → To} {L : List (List Int)} {gs : List Int} (hg : gs.length = 3) {i j : Nat} (hij : i < j) (hj : j < L.length) {r q : Int} (hr : 1 ≤ r ∧ r ≤ 30) (hq : 1 ≤ q ∧ q ≤ 30) (hx : ∀ k, 0 ≤ elT (webL L i) k) (hy : ∀ k, 0 ≤ elT (webL L j) k) (hh : ∀ k, k < 3 → (os k).lo ≤ elT gs k + elT (webL L i) k * r + elT (webL L j) k * q ∧ elT gs k + elT (webL L i) k * r + elT (webL L j) k * q ≤ (os k).hi) (s : Se) : (tryF p os 3 L 2 [] 0 0 gs s).found = true := by
  obtain ⟨h, e, h1⟩ := room_in (os := os) (gs := gs) (xs := webL L i) hr hx (fun k hk => by have a1 := hh k hk; have a2 := Int.mul_nonneg (hy k) (show 0 ≤ q by omega); omega) 3 (Nat.le_refl _)
  have e2 : roomF os gs (webL L i) ((1 : Nat) == 0) 3 = (1, h) := by unfold roomF; rw [show ((1 : Nat) == 0) = false from rfl, e]; rfl
  refine tryS_hit i ⟨Nat.zero_le _, by omega⟩ (r - 1).toNat (by rw [e2]; show (r - 1).toNat < (h - 1 + 1).toNat; omega) (fun s => ?_) s
  rw [e2]
  show (tryF p os 3 L 1 _ _ _ (addK gs (webL L i) (1 + ((r - 1).toNat : Int)) 3) s).found = true
  rw [show (1 + ((r - 1).toNat : Int)) = r by omega]
  refine try1_hit (by rw [addK_len]; exact hg) j ⟨by omega, hj⟩ hq hy (fun k hk => ?_) s
  rw [addK_at _ _ _ _ _ (by omega), if_pos hk]
  exact hh k hk
end Go.Proofs.Ytnhipdbdolabkaa
