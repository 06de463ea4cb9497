/- Part of the proof: what the claim leans on. -/
import Derived.Test.YtnhipdbdolabkaaWBN
set_option linter.unusedSimpArgs false
set_option linter.unusedVariables false
namespace Go.Proofs.Ytnhipdbdolabkaa
open Go.RowKit
/-- Set-ups that ascend, below a pattern. -/
structure PlG (pl : List (Nat × Int)) (fr : Nat) : Prop where
  i : ∀ x ∈ pl, x.1 < fr ∧ 1 ≤ x.2 ∧ x.2 ≤ 30
  a : pl.Pairwise (fun x y => x.1 < y.1)
def gotP (L : List (List Int)) (pl : List (Nat × Int)) : List Int := gotK (plX L pl) pl.length
theorem gotK_congr {xs ys : Nat → List Int × Int} : ∀ k, (∀ j, j < k → xs j = ys j) → gotK xs k = gotK ys k
  | 0, _ => rfl
  | k + 1, h => by rw [gotK, gotK, gotK_congr k (fun j hj => h j (by omega)), h k (by omega)]
theorem gotP_snoc (L : List (List Int)) (pl : List (Nat × Int)) (i : Nat) (r : Int) : gotP L (pl ++ [(i, r)]) = addK (gotP L pl) (webL L i) r 3 := by
  have e : plX L (pl ++ [(i, r)]) pl.length = (webL L i, r) := by
    unfold plX; rw [List.getD_eq_getElem?_getD, List.getElem?_concat_length]; rfl
  unfold gotP
  rw [show (pl ++ [(i, r)]).length = pl.length + 1 by simp, gotK, e, gotK_congr (ys := plX L pl) pl.length (fun j hj => by unfold plX; rw [List.getD_eq_getElem?_getD, List.getD_eq_getElem?_getD, List.getElem?_append_left hj])]
def BestOk (os : Nat → To) (L : List (List Int)) (n : Nat) (s : Se) : Prop := s.found = true → PlG s.best L.length ∧ s.best.length = n ∧ wrF os (gotP L s.best) 3 0 < 0
theorem tryF_sound {p : Tp} {os : Nat → To} {L : List (List Int)} (ho : ∀ i, i < 3 → ToIn (os i)) (hL : LOk p os 3 L) (n : Nat) : ∀ (m : Nat) (pl : List (Nat × Int)) (fr : Nat) (wa : Int) (gs : List Int) (s : Se), TryOk 3 L m pl fr wa gs → PlG pl fr → m + pl.length = n → gs = gotP L pl → BestOk os L n s → BestOk os L n (tryF p os 3 L m pl fr wa gs s)
  | 0, pl, fr, wa, gs, s, hT, hP, hn, hg, hs => by
    unfold tryF
    split
    · rename_i h
      rw [Bool.and_eq_true] at h
      intro _
      refine ⟨⟨fun x hx => ?_, hP.a⟩, by show pl.length = n; omega, ?_⟩
      · have := hP.i x hx; have := hT.fr; omega
      · show wrF os (gotP L pl) 3 0 < 0
        rw [← hg]; exact of_decide_eq_true h.1
    · exact hs
  | m + 1, pl, fr, wa, gs, s, hT, hP, hn, hg, hs => by
    rw [tryF]
    split
    · exact hs
    · refine forI_inv (BestOk os L n) _ _ (fun k s hk hs => ?_) hs
      have hi : fr + k < L.length := by omega
      have hb := roomF_bd (os := os) (gs := gs) (xs := webL L (fr + k)) (last := (m == 0)) (n := 3) ho (fun i => by have := hT.g i; have := hT.u; omega) (getD_bd (hL.x (fr + k) hi) (by decide))
      refine forR_inv (BestOk os L n) _ _ (fun r s hr hs => ?_) hs
      have hr2 : r < ((roomF os gs (webL L (fr + k)) (m == 0) 3).2 - (roomF os gs (webL L (fr + k)) (m == 0) 3).1 + 1).toNat := by
        unfold runN at hr; split at hr <;> omega
      refine tryF_sound ho hL n m _ _ _ _ s (hT.next hL hi (by omega)) ⟨fun x hx => ?_, ?_⟩ (by simp; omega) (by rw [gotP_snoc, hg]) hs
      · rcases List.mem_append.1 hx with h | h
        · have := hP.i x h; omega
        · rw [List.mem_singleton.1 h]
          refine ⟨Nat.lt_succ_self _, ?_, ?_⟩ <;> show _ ≤ _ <;> (try show (1 : Int) ≤ _) <;> omega
      · refine List.pairwise_append.2 ⟨hP.a, List.pairwise_singleton _ _, fun x hx y hy => ?_⟩
        rw [List.mem_singleton.1 hy]
        have := hP.i x hx
        show x.1 < fr + k; omega
theorem getD_pair {pl : List (Nat × Int)} {j : Nat} (h : j < pl.length) : pl.getD j (0, 0) = pl[j] := by
  rw [List.getD_eq_getElem?_getD, List.getElem?_eq_getElem h]; rfl
theorem plG_get {p : Tp} {os : Nat → To} {pl : List (Nat × Int)} (hp : TpIn p) (ho : ∀ i, i < 3 → ToIn (os i)) (h : PlG pl (patL p os 3 3 []).length) (hl : pl.length ≤ 3) : GetOk p os pl.length (plX (patL p os 3 3 []) pl) := by
  have hm : ∀ j (hj : j < pl.length), pl[j] ∈ pl := fun j hj => List.getElem_mem hj
  have hi : ∀ j, j < pl.length → webL (patL p os 3 3 []) (pl.getD j (0, 0)).1 ∈ patL p os 3 3 [] := fun j hj => by
    rw [getD_pair hj, webL_at (h.i _ (hm j hj)).1]; exact List.getElem_mem _
  have hy : ∀ j, j < pl.length → _ := fun j hj => patL_mem hp 3 [] rfl (fun x h => nomatch h) _ (hi j hj)
  refine ⟨hl, fun j hj => (hy j hj).1, fun j hj => (hy j hj).2.1, fun j hj => (hy j hj).2.2, fun j hj => ?_, fun j h0 hj => ?_⟩
  · show 1 ≤ (pl.getD j (0, 0)).2 ∧ (pl.getD j (0, 0)).2 ≤ 30
    rw [getD_pair hj]; exact (h.i _ (hm j hj)).2
  · show LexLt (webL _ (pl.getD (j - 1) (0, 0)).1) (webL _ (pl.getD j (0, 0)).1) 3
    rw [getD_pair (show j - 1 < pl.length by omega), getD_pair hj]
    exact webL_lex (List.pairwise_iff_getElem.1 h.a (j - 1) j (by omega) hj (by omega)) (h.i _ (hm j hj)).1
theorem lex_irrefl {a : List Int} (h : LexLt a a 3) : False := by
  obtain ⟨j, _, _, h⟩ := h; omega
theorem lex_asymm {a b : List Int} (h : LexLt a b 3) (h' : LexLt b a 3) : False := by
  obtain ⟨j, _, h1, h2⟩ := h
  obtain ⟨i, _, h3, h4⟩ := h'
  rcases Nat.lt_trichotomy i j with h | h | h
  · have := h1 i h; omega
  · subst h; omega
  · have := h3 j h; omega
/-- There is a best plan; it has at most two set-ups, and does. -/
theorem plan_found {p : Tp} {os : Nat → To} {xs : Nat → List Int × Int} (hp : TpIn p) (hp4 : p.webs = 4) (ho : ∀ i, i < 3 → ToIn (os i)) (hg : GetOk p os 2 xs) (hw : wrF os (gotK xs 2) 3 0 < 0) :
    ∃ q, planF (seN p os (patL p os 3 3 [])) 4 0 = some q ∧ q.best.length ≤ 2 ∧ GetOk p os q.best.length (plX (patL p os 3 3 []) q.best) ∧ wrF os (gotK (plX (patL p os 3 3 []) q.best) q.best.length) 3 0 < 0 := by
  have hL : LOk p os 3 (patL p os 3 3 []) := patL_ok hp ho
  have hs : ∀ n, n ≤ 3 → BestOk os (patL p os 3 3 []) n (seN p os (patL p os 3 3 []) n) := fun n hn =>
    tryF_sound ho hL n n [] 0 0 [0, 0, 0] _ (tryOk_start (no := 3) hn) ⟨(fun x h => nomatch h), List.Pairwise.nil⟩ rfl rfl (fun h => nomatch h)
  have hmem : ∀ j, j < 2 → (xs j).1 ∈ patL p os 3 3 [] := fun j hj => by
    have h := patL_has (p := p) (os := os) (no := 3) hp (xs j).1 [] (fun y hy => by rw [hp4]; exact hg.bd j hj y hy) (hg.pt j hj)
    rw [List.nil_append, hg.ln j hj] at h; exact h
  obtain ⟨i, hi, ei⟩ := List.getElem_of_mem (hmem 0 (by decide))
  obtain ⟨j, hj, ej⟩ := List.getElem_of_mem (hmem 1 (by decide))
  have hlt : LexLt (xs 0).1 (xs 1).1 3 := hg.lx 1 (by decide) (by decide)
  have hij : i < j := by
    rcases Nat.lt_trichotomy i j with h | h | h
    · exact h
    · subst h; rw [ei] at ej; rw [ej] at hlt; exact (lex_irrefl hlt).elim
    · have h2 := webL_lex h hi
      rw [webL_at hj, webL_at hi, ei, ej] at h2
      exact (lex_asymm hlt h2).elim
  have wi : webL (patL p os 3 3 []) i = (xs 0).1 := (webL_at hi).trans ei
  have wj : webL (patL p os 3 3 []) j = (xs 1).1 := (webL_at hj).trans ej
  have h2 : (seN p os (patL p os 3 3 []) 2).found = true := by
    refine try2_hit (gs := [0, 0, 0]) rfl hij hj (hg.rn 0 (by decide)) (hg.rn 1 (by decide)) (fun k => ?_) (fun k => ?_) (fun k hk => ?_) _
    · rw [wi]; exact (getD_bd (hg.bd 0 (by decide)) (by decide) k).1
    · rw [wj]; exact (getD_bd (hg.bd 1 (by decide)) (by decide) k).1
    · have h := (wr_iff _ _).1 hw k hk
      rw [got_at xs 1 k hk, got_at xs 0 k hk] at h
      rw [wi, wj]; exact h
  have fin : ∀ n, n ≤ 2 → (seN p os (patL p os 3 3 []) n).found = true → (seN p os (patL p os 3 3 []) n).best.length ≤ 2 ∧ GetOk p os (seN p os (patL p os 3 3 []) n).best.length (plX (patL p os 3 3 []) (seN p os (patL p os 3 3 []) n).best) ∧ wrF os (gotK (plX (patL p os 3 3 []) (seN p os (patL p os 3 3 []) n).best) (seN p os (patL p os 3 3 []) n).best.length) 3 0 < 0 := fun n hn h => by
    obtain ⟨a1, a2, a3⟩ := hs n (by omega) h
    exact ⟨by omega, plG_get hp ho a1 (by omega), a3⟩
  rw [planF]
  split
  · rename_i h; exact ⟨_, rfl, fin 0 (by decide) h⟩
  · rw [planF]
    split
    · rename_i h; exact ⟨_, rfl, fin 1 (by decide) h⟩
    · rw [planF, if_pos h2]; exact ⟨_, rfl, fin 2 (by decide) h2⟩
end Go.Proofs.Ytnhipdbdolabkaa
