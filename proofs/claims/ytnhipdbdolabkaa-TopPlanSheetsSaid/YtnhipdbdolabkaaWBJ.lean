/- Part of the proof: what the claim leans on. -/
import Derived.Test.YtnhipdbdolabkaaWAT
import Derived.Test.YtnhipdbdolabkaaWAL
set_option linter.unusedSimpArgs false
set_option linter.unusedVariables false
namespace Go.Proofs.Ytnhipdbdolabkaa
open Go.RowKit
/-- A pattern that may be is among them. -/
theorem patL_has {p : Tp} {os : Nat → To} {no : Nat} (hp : TpIn p) : ∀ (ys xs : List Int), (∀ y ∈ ys, 0 ≤ y ∧ y ≤ p.webs) → patF p os (xs ++ ys) no = true → xs ++ ys ∈ patL p os no ys.length xs
  | [], xs, _, h => by rw [List.append_nil] at h ⊢; show xs ∈ patL p os no 0 xs; rw [patL, if_pos h]; exact List.mem_singleton.2 rfl
  | y :: ys, xs, hy, h => by
    show xs ++ y :: ys ∈ patL p os no (ys.length + 1) xs
    rw [patL]
    have hy0 := hy y (List.mem_cons_self ..)
    have e : xs ++ y :: ys = (xs ++ [((y.toNat : Nat) : Int)]) ++ ys := by rw [List.append_assoc, List.singleton_append, Int.toNat_of_nonneg hy0.1]
    refine List.mem_flatMap.2 ⟨y.toNat, List.mem_range.2 (by omega), ?_⟩
    rw [e] at h ⊢
    exact patL_has hp ys _ (fun z hz => hy z (List.mem_cons_of_mem _ hz)) h
/-- How many knives there are ahead of an order's webs. -/
def cntF (xs : List Int) : Nat → Nat
  | 0 => 1
  | k + 1 => cntF xs k + (elT xs k).toNat
theorem webF_len (wd a : Int) : ∀ n, (webF wd a n).length = n
  | 0 => rfl
  | n + 1 => by rw [webF, List.length_append, webF_len wd a n]; rfl
theorem webF_at (wd a : Int) : ∀ n i, i < n → elT (webF wd a n) i = a + wd * ((i : Int) + 1)
  | 0, i, h => absurd h (Nat.not_lt_zero _)
  | n + 1, i, h => by
    rw [webF]
    unfold elT
    rw [List.getD_eq_getElem?_getD]
    rcases Nat.lt_or_ge i n with h1 | h1
    · rw [List.getElem?_append_left (by rw [webF_len]; exact h1), ← List.getD_eq_getElem?_getD]; exact webF_at wd a n i h1
    · obtain rfl : i = n := by omega
      rw [List.getElem?_append_right (by rw [webF_len]; exact Nat.le_refl _), webF_len, Nat.sub_self]; rfl
theorem knF_len (os : Nat → To) (xs : List Int) (a0 : Int) : ∀ n, (knF os xs a0 n).length = cntF xs n
  | 0 => rfl
  | n + 1 => by rw [knF, List.length_append, knF_len os xs a0 n, webF_len, cntF]
theorem cntF_mono (xs : List Int) {b : Nat} : ∀ n, b ≤ n → cntF xs b ≤ cntF xs n
  | 0, h => by obtain rfl : b = 0 := by omega
               exact Nat.le_refl _
  | n + 1, h => by
    rcases Nat.lt_or_ge b (n + 1) with h1 | h1
    · exact Nat.le_trans (cntF_mono xs n (by omega)) (Nat.le_add_right _ _)
    · obtain rfl : b = n + 1 := by omega
      exact Nat.le_refl _
/-- The knives: the next one is a web's width behind. -/
theorem knF_at (os : Nat → To) (xs : List Int) (a0 : Int) {b w : Nat} (hw : w < (elT xs b).toNat) : ∀ n, b < n → elT (knF os xs a0 n) (cntF xs b + w) = atF os xs a0 b + (os b).wd * ((w : Int) + 1)
  | 0, h => absurd h (Nat.not_lt_zero _)
  | n + 1, h => by
    rw [knF]
    unfold elT
    rw [List.getD_eq_getElem?_getD]
    rcases Nat.lt_or_ge b n with h1 | h1
    · have h2 : cntF xs b + w < cntF xs n := by
        have := cntF_mono xs (b := b + 1) n h1
        rw [cntF] at this; omega
      rw [List.getElem?_append_left (by rw [knF_len]; exact h2), ← List.getD_eq_getElem?_getD]; exact knF_at os xs a0 hw n h1
    · obtain rfl : b = n := by omega
      rw [List.getElem?_append_right (by rw [knF_len]; omega), knF_len, Nat.add_sub_cancel_left, ← List.getD_eq_getElem?_getD]
      exact webF_at _ _ _ _ hw
theorem knF_first (os : Nat → To) (xs : List Int) (a0 : Int) : ∀ n, elT (knF os xs a0 n) 0 = a0
  | 0 => rfl
  | n + 1 => by
    rw [knF]
    unfold elT
    rw [List.getD_eq_getElem?_getD, List.getElem?_append_left (by rw [knF_len]; have := cntF_mono xs (b := 0) n (Nat.zero_le _); rw [show cntF xs 0 = 1 from rfl] at this; omega), ← List.getD_eq_getElem?_getD]
    exact knF_first os xs a0 n
theorem at_left (p : Tp) (os : Nat → To) (xs : List Int) (a0 : Int) : ∀ n, atF os xs a0 n + leftF p os xs n = a0 + p.wide
  | 0 => rfl
  | n + 1 => by have h := at_left p os xs a0 n; rw [atF, leftF]; omega
end Go.Proofs.Ytnhipdbdolabkaa
