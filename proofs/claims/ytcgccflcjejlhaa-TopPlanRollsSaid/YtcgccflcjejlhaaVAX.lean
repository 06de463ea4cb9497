/- Part of the proof: what the claim leans on. -/
import Derived.Test.YtcgccflcjejlhaaVAW
import Derived.Test.YtcgccflcjejlhaaVAK
import Derived.Test.YtcgccflcjejlhaaVAM
import Derived.Test.YtcgccflcjejlhaaVAI
import Derived.Test.YtcgccflcjejlhaaVAS
import Derived.Test.YtcgccflcjejlhaaVAC
import Derived.Test.YtcgccflcjejlhaaVAU
set_option maxHeartbeats 4000000
set_option linter.unusedSimpArgs false
set_option linter.unusedVariables false
namespace Go.Proofs.Ytcgccflcjejlhaa
open Go.RowKit
def leF (tl t : Int) (ln : Nat → Int) : Nat → Int
  | 0 => t
  | k + 1 => leF tl t ln k - min (leF tl t ln k) (ln k - tl)
def atR (tl : Int) (ln : Nat → Int) : Nat → Int
  | 0 => 0
  | k + 1 => atR tl ln k + (ln k - tl)
theorem leF_in {tl t : Int} {ss : Nat → Int × Int} {ln : Nat → Int} {n : Nat} (ht : 0 ≤ t) (h : ∀ i, i < n → tl < (ss i).1 ∧ (ss i).1 ≤ ln i ∧ ln i ≤ (ss i).2) : ∀ k, k ≤ n → 0 ≤ leF tl t ln k ∧ (rsM tl ss t k).2 ≤ leF tl t ln k ∧ leF tl t ln k ≤ (rsM tl ss t k).1
  | 0, _ => ⟨ht, Int.le_refl _, Int.le_refl _⟩
  | k + 1, hk => by
    have ih := leF_in ht h k (by omega)
    have hh := h k (by omega)
    show 0 ≤ leF tl t ln k - min (leF tl t ln k) (ln k - tl) ∧ max 0 ((rsM tl ss t k).2 - (ss k).2 + tl) ≤ leF tl t ln k - min (leF tl t ln k) (ln k - tl) ∧ leF tl t ln k - min (leF tl t ln k) (ln k - tl) ≤ max 0 ((rsM tl ss t k).1 - (ss k).1 + tl)
    omega
theorem rest_in {tl t : Int} {ss : Nat → Int × Int} {ln : Nat → Int} {n : Nat} (ht : 0 ≤ t) (h : ∀ i, i < n → tl < (ss i).1 ∧ (ss i).1 ≤ ln i ∧ ln i ≤ (ss i).2) {k : Nat} (hk : k < n) : (rsF tl ss t k).1 ≤ ln k - min (leF tl t ln k) (ln k - tl) ∧ ln k - min (leF tl t ln k) (ln k - tl) ≤ (rsF tl ss t k).2 := by
  have ih := leF_in ht h k (by omega)
  have hh := h k hk
  show max tl ((ss k).1 - (rsM tl ss t k).1) ≤ _ ∧ _ ≤ max tl ((ss k).2 - (rsM tl ss t k).2)
  omega
theorem atR_in {tl : Int} {ss : Nat → Int × Int} {ln : Nat → Int} {n : Nat} (h : ∀ i, i < n → tl < (ss i).1 ∧ (ss i).1 ≤ ln i ∧ ln i ≤ (ss i).2) : ∀ k, k ≤ n → (usplF tl ss k).1 ≤ atR tl ln k ∧ atR tl ln k ≤ (usplF tl ss k).2 ∧ 0 ≤ atR tl ln k ∧ (0 < k → 0 < atR tl ln k)
  | 0, _ => ⟨Int.le_refl _, Int.le_refl _, Int.le_refl _, fun h => absurd h (Nat.lt_irrefl _)⟩
  | k + 1, hk => by
    have ih := atR_in h k (by omega)
    have hh := h k (by omega)
    show (usplF tl ss k).1 + (ss k).1 - tl ≤ atR tl ln k + (ln k - tl) ∧ atR tl ln k + (ln k - tl) ≤ (usplF tl ss k).2 + (ss k).2 - tl ∧ 0 ≤ atR tl ln k + (ln k - tl) ∧ (0 < k + 1 → 0 < atR tl ln k + (ln k - tl))
    omega
theorem leF_at {tl t : Int} {ss : Nat → Int × Int} {ln : Nat → Int} {n : Nat} (ht : 0 ≤ t) (h : ∀ i, i < n → tl < (ss i).1 ∧ (ss i).1 ≤ ln i ∧ ln i ≤ (ss i).2) : ∀ k, k ≤ n → leF tl t ln k = max 0 (t - atR tl ln k)
  | 0, _ => by show t = max 0 (t - 0); omega
  | k + 1, hk => by
    have ih := leF_at ht h k (by omega)
    have hh := h k (by omega)
    have ha := atR_in h k (by omega)
    show leF tl t ln k - min (leF tl t ln k) (ln k - tl) = max 0 (t - (atR tl ln k + (ln k - tl)))
    omega
theorem bg_find {f : Nat → Int} {x : Int} : ∀ (m : Nat), f 0 < x → x < f m → (∀ j, j < m → x ≠ f (j + 1)) → ∃ j, j < m ∧ f j < x ∧ x < f (j + 1)
  | 0, h1, h2, _ => by omega
  | m + 1, h1, h2, h3 => by
    rcases Int.lt_or_le x (f m) with h | h
    · obtain ⟨j, hj, h4⟩ := bg_find m h1 h (fun j hj => h3 j (by omega))
      exact ⟨j, by omega, h4⟩
    · refine ⟨m, by omega, ?_, h2⟩
      rcases Nat.eq_zero_or_pos m with rfl | hm
      · exact h1
      · have := h3 (m - 1) (by omega)
        rw [Nat.sub_add_cancel hm] at this
        omega
theorem lasts_law {tl : Int} {ss : Nat → Int × Int} {lg : Nat → Int} {n m : Nat} (hb : fltB (badB 4 3 tl ss n lg) m = false) (hu : 0 ≤ (usplF tl ss n).1) : bgF lg m * 4 ≤ (usplF tl ss n).1 * 3 := by
  rcases Nat.eq_zero_or_pos m with rfl | hm
  · show (0 : Int) * 4 ≤ _; omega
  · have h1 := fltB_none hb (j := m - 1) (by omega)
    unfold badB at h1
    rw [Bool.or_eq_false_iff] at h1
    have h2 := of_decide_eq_false h1.2
    rw [Nat.sub_add_cancel hm] at h2
    omega
theorem left_law {tl : Int} {ss : Nat → Int × Int} {ln lg : Nat → Int} {n m : Nat} (hb : fltB (badB 4 3 tl ss n lg) m = false) (hu : 0 ≤ (usplF tl ss n).1) (h0 : 0 ≤ bgF lg m) (h : ∀ i, i < n → tl < (ss i).1 ∧ (ss i).1 ≤ ln i ∧ ln i ≤ (ss i).2) : leF tl ((bgF lg m * 4 + 2) / 3) ln n = 0 := by
  have h1 := lasts_law hb hu
  have h2 := atR_in h n (Nat.le_refl _)
  rw [leF_at (by omega) h n (Nat.le_refl _)]
  omega
theorem fine_law {tl : Int} {ss : Nat → Int × Int} {ln lg : Nat → Int} {n m : Nat} (hb : fltB (badB 4 3 tl ss n lg) m = false) (hu : 0 ≤ (usplF tl ss n).1) (h : ∀ i, i < n → tl < (ss i).1 ∧ (ss i).1 ≤ ln i ∧ ln i ≤ (ss i).2) {k : Nat} (hk : k < n) :
    bgF lg m * 4 ≤ atR tl ln (k + 1) * 3 ∨ ∃ j, j < m ∧ atR tl ln (k + 1) * 3 = bgF lg (j + 1) * 4 := by
  have ha := atR_in h (k + 1) (by omega)
  by_cases hl : k + 1 = n
  · have h1 := lasts_law hb hu
    rw [hl] at ha ⊢
    exact .inl (by omega)
  · refine Classical.byContradiction fun hn => ?_
    have hx : atR tl ln (k + 1) * 3 < bgF lg m * 4 := Int.not_le.1 fun h => hn (.inl h)
    obtain ⟨j, hj, h3, h4⟩ := bg_find (f := fun j => bgF lg j * 4) (x := atR tl ln (k + 1) * 3) m (by show (0 : Int) * 4 < _; have := ha.2.2.2 (by omega); omega) hx (fun j hj e => hn (.inr ⟨j, hj, e⟩))
    have hbad := fltB_none hb hj
    unfold badB at hbad
    rw [Bool.or_eq_false_iff] at hbad
    have hz := of_decide_eq_false hbad.1
    refine hz ?_
    have hp : lieB 4 3 tl ss n (bgF lg j) (bgF lg (j + 1)) k = true := by
      unfold lieB meetF upF
      rw [Bool.and_eq_true]
      refine ⟨decide_eq_true (by omega), decide_eq_true ?_⟩
      have h3' : bgF lg j * 4 < atR tl ln (k + 1) * 3 := h3
      have h4' : atR tl ln (k + 1) * 3 < bgF lg (j + 1) * 4 := h4
      show max (usplF tl ss (k + 1)).1 (bgF lg j * 4 / 3 + 1) ≤ min (usplF tl ss (k + 1)).2 ((bgF lg (j + 1) * 4 + 3 - 1) / 3 - 1)
      omega
    have := lieL_pos hp n hk
    omega
open Go.RowKit
structure LeP (B p : Nat) (x : Int) (a b : World) : Prop where
  os : b.os = a.os
  tape : b.tape = a.tape
  output : b.output = a.output
  size : a.heap.size ≤ b.heap.size
  block : ∀ k o, a.heap[k]? = some o → b.heap[k]? = some o ∨ (B ≤ k ∧ ∃ cs, o = .cells cs 3 (0, 0) ∧ b.heap[k]? = some (.cells (cs.setIfInBounds p (.int .i64 x)) 3 (0, 0)))
theorem LeP.refl {B p : Nat} {x : Int} (a : World) : LeP B p x a a := ⟨rfl, rfl, rfl, Nat.le_refl _, fun _ _ h => .inl h⟩
theorem LeP.drew {B p : Nat} {x : Int} (a : World) : LeP B p x a a.drew := ⟨rfl, rfl, rfl, Nat.le_refl _, fun _ _ h => .inl h⟩
theorem LeP.of_below {B p : Nat} {x : Int} (a b : World) (h : Below a.heap.size a b) : LeP B p x a b := ⟨h.os, h.tape, h.output, h.size, fun k o hx => .inl ((h.block k (Array.getElem?_eq_some_iff.1 hx).1).trans hx)⟩
theorem set_twice (cs : Array Value) (p : Nat) (v : Value) : (cs.setIfInBounds p v).setIfInBounds p v = cs.setIfInBounds p v := by
  apply Array.ext_getElem?
  intro i
  by_cases h : p = i <;> simp [h, Array.getElem?_setIfInBounds]
theorem LeP.trans {B p : Nat} {x : Int} (a b c : World) (h : LeP B p x a b) (k : LeP B p x b c) : LeP B p x a c :=
  ⟨k.os.trans h.os, k.tape.trans h.tape, k.output.trans h.output, Nat.le_trans h.size k.size, fun i o hx => by
    rcases h.block i o hx with h1 | ⟨hb, cs, rfl, h1⟩
    · exact k.block i o h1
    · rcases k.block i _ h1 with h2 | ⟨-, cs2, e, h2⟩
      · exact .inr ⟨hb, cs, rfl, h2⟩
      · cases e
        rw [set_twice] at h2
        exact .inr ⟨hb, cs, rfl, h2⟩⟩
theorem LeP.oth {B p b : Nat} {x : Int} {W W' : World} {cs : Array Value} {T : TypeId} {m : Nat × Nat} (h : LeP B p x W W') (hb : W.heap[b]? = some (.cells cs T m)) (hT : (T != 3) = true := by decide) : W'.heap[b]? = some (.cells cs T m) := by
  rcases h.block b _ hb with h1 | ⟨-, cs', e, -⟩
  · exact h1
  · cases e; cases hT
theorem LeP.old {B p b : Nat} {x : Int} {W W' : World} {o : Obj} (h : LeP B p x W W') (hb : W.heap[b]? = some o) (hlt : b < B) : W'.heap[b]? = some o := by
  rcases h.block b _ hb with h1 | ⟨h1, -⟩
  · exact h1
  · omega
theorem LeP.keep {B p : Nat} {x : Int} {W W' : World} (h : LeP B p x W W') : KeepP (fun k => B ≤ k) W W' := ⟨h.os, h.tape, h.output, h.size, fun k o hk hx => h.old hx (Nat.not_le.1 hk)⟩
theorem LeP.below {B B' p : Nat} {x : Int} {W W' : World} (h : LeP B p x W W') (hB : B' ≤ B) (hB2 : B' ≤ W.heap.size) : Below B' W W' := ⟨h.os, h.tape, h.output, h.size, fun k hk => by
  have hx : W.heap[k]? = some W.heap[k] := Array.getElem?_eq_getElem (by omega)
  rw [hx]; exact h.old hx (by omega)⟩
theorem LeP.own {B B' p g c : Nat} {x : Int} {xs : List Int} {W W' : World} (h : LeP B p x W W') (ho : OwnR 3 1 B' p (iis xs) g c W) : OwnR 3 1 B' p (iis xs) g c W' := by
  obtain ⟨h1, h2, h3, h4⟩ := ho
  refine ⟨h1, Nat.lt_of_lt_of_le h2 h.size, h3, ?_⟩
  rcases h4 with h4 | ⟨g', cap, cur, e, h5, h6, h7, h8, h9, h10⟩
  · exact .inl h4
  · rcases h.block g' _ h6 with k1 | ⟨-, cs, e2, k1⟩
    · exact .inr ⟨g', cap, cur, e, h5, k1, h7, h8, h9, h10⟩
    · cases e2
      refine .inr ⟨g', cap, _, e, h5, k1, h7, h8, by simpa using h9, ?_⟩
      rw [← h10]
      apply List.ext_getElem?
      intro i
      rw [List.getElem?_take, List.getElem?_take]
      split
      · rename_i hi
        simp only [Array.getElem?_toList, Array.getElem?_setIfInBounds]
        rw [if_neg (by omega)]
      · rfl
theorem LeP.own1 {B B' p g c : Nat} {x : Int} {xs : List Int} {W W' : World} (h : LeP B p x W W') (hl : xs.length = p) (ho : OwnR 3 1 B' (p + 1) (iis (xs ++ [x])) g c W) : OwnR 3 1 B' (p + 1) (iis (xs ++ [x])) g c W' := by
  obtain ⟨h1, h2, h3, h4⟩ := ho
  refine ⟨h1, Nat.lt_of_lt_of_le h2 h.size, h3, ?_⟩
  rcases h4 with h4 | ⟨g', cap, cur, e, h5, h6, h7, h8, h9, h10⟩
  · exact .inl h4
  · rcases h.block g' _ h6 with k1 | ⟨-, cs, e2, k1⟩
    · exact .inr ⟨g', cap, cur, e, h5, k1, h7, h8, h9, h10⟩
    · cases e2
      refine .inr ⟨g', cap, _, e, h5, k1, h7, h8, by simpa using h9, ?_⟩
      have hp : cur[p]? = some (.int .i64 x) := by
        have : (iis (xs ++ [x]))[p]? = some (.int .i64 x) := by unfold iis; rw [List.getElem?_map, List.getElem?_append_right (by omega), hl, Nat.sub_self]; rfl
        rw [← h10, List.getElem?_take, if_pos (by omega)] at this
        simpa using this
      have : cur.setIfInBounds p (.int .i64 x) = cur := by
        apply Array.ext_getElem?
        intro i
        by_cases hi : p = i
        · subst hi
          have hlt := (Array.getElem?_eq_some_iff.1 hp).1
          rw [hp, Array.getElem?_setIfInBounds, if_pos rfl, if_pos hlt]
        · rw [Array.getElem?_setIfInBounds, if_neg hi]
      rw [this, h10]
theorem LeP.one {B p b : Nat} {x : Int} {W W' : World} (h : LeP B p x W W') (hb : W.heap[b]? = some (.cells #[.int .i64 x] 3 (0, 0))) : W'.heap[b]? = some (.cells #[.int .i64 x] 3 (0, 0)) := by
  rcases h.block b _ hb with h1 | ⟨-, cs, e, h1⟩
  · exact h1
  · cases e
    rw [h1]
    cases p with
    | zero => rfl
    | succ q => rfl
theorem app_own {B g c b p : Nat} {x : Int} {xs : List Int} {W : World} (ty : TypeId) (hl : xs.length = p) (hp : p ≤ 1000) (ho : OwnR 3 1 B p (iis xs) g c W) (hBW : B ≤ W.heap.size) (hb : W.heap[b]? = some (.cells #[.int .i64 x] 3 (0, 0))) :
    ∃ v W', (Builtin.append_ #[25, 25] ty #[.slice (some ⟨g, 0, none⟩) p c, .slice (some ⟨b, 0, none⟩) 1 1]).run Try.prog W = .ok v W' ∧ LeP B p x W W' ∧ ∃ g' c', v = .slice (some ⟨g', 0, none⟩) (p + 1) c' ∧ OwnR 3 1 B (p + 1) (iis (xs ++ [x])) g' c' W' := by
  have ho' := ho
  obtain ⟨h1, h2, h3, h4⟩ := ho
  rcases h4 with ⟨e, -⟩ | ⟨g', cap, cur, e, h5, h6, h7, h8, h9, h10⟩
  · cases e
  · simp only [Value.slice.injEq, Option.some.injEq, Addr.mk.injEq, and_true, true_and] at e
    obtain ⟨rfl, rfl⟩ := e
    have hm : maxLen = 9223372036854775807 ∨ True := .inr trivial
    rcases Nat.lt_or_ge p c with hc | hc
    · obtain ⟨i0, hi0, hz⟩ : ∃ i0, Try.prog.info? 3 = some i0 ∧ i0.size = 1 := by
        have := da_infoI
        cases h : Try.prog.info? 3 with
        | none => rw [h] at this; cases this
        | some i0 => rw [h] at this; simp only [Option.map_some, Option.some.injEq, Prod.mk.injEq] at this; exact ⟨i0, rfl, this.2.1⟩
      have hcs : cur.size = c := by omega
      have hr := run_append_room (P := Try.prog) W 25 ty 3 i0 (by kernel_rfl) hi0 g p c cur h6 ⟨b, 0, none⟩ 1 1 [.int .i64 x] (by rw [hz]; rfl)
        (fun j u hj => by
          have e0 : j = 0 := by
            cases j with
            | zero => rfl
            | succ q => simp at hj
          subst e0
          have hj' : (Value.int .i64 x) = u := Option.some.inj hj
          subst hj'
          exact Joins.cell_of_block hb 0) (fun u hu => by simp only [List.mem_singleton] at hu; subst hu; rfl) (by omega) (by rw [hz]; simp; omega)
      have hset : (cur.toList.take (p * i0.size) ++ [Value.int .i64 x] ++ cur.toList.drop (p * i0.size + [Value.int .i64 x].length)).toArray = cur.setIfInBounds p (.int .i64 x) := by
        rw [hz, Nat.mul_one]
        apply Array.ext'
        apply List.ext_getElem?
        intro i
        simp only [Array.toList_setIfInBounds, List.getElem?_set, Array.length_toList]
        rcases Nat.lt_trichotomy i p with hi | hi | hi
        · rw [List.append_assoc, List.getElem?_append_left (by simp; omega), List.getElem?_take, if_pos hi, if_neg (by omega)]
        · subst hi
          rw [List.append_assoc, List.getElem?_append_right (by simp; omega), if_pos rfl, if_pos (by omega)]
          simp [show min i cur.size = i by omega]
        · rw [if_neg (by omega), List.getElem?_append_right (by simp; omega)]
          simp only [List.getElem?_drop, List.length_append, List.length_take, Array.length_toList, List.length_cons, List.length_nil]
          exact congrArg (fun q => cur.toList[q]?) (by omega)
      rw [hset] at hr
      have hhp : ∀ k, k ≠ g → (W.setRow g (cur.setIfInBounds p (.int .i64 x))).heap[k]? = W.heap[k]? := fun k hk => by
        simp only [World.setRow]; rw [Array.getElem?_modify, if_neg (fun e => hk e.symm)]
      have hhg : (W.setRow g (cur.setIfInBounds p (.int .i64 x))).heap[g]? = some (.cells (cur.setIfInBounds p (.int .i64 x)) 3 (0, 0)) := by
        simp only [World.setRow]; rw [Array.getElem?_modify, if_pos rfl, h6]; rfl
      refine ⟨_, _, hr, ⟨rfl, rfl, rfl, by simp [World.setRow], fun k o hx => ?_⟩, g, c, rfl, h1, by simpa [World.setRow] using h2, by simp [iis, hl], .inr ⟨g, c, _, rfl, h5, hhg, by omega, h8, by simp; omega, ?_⟩⟩
      · by_cases hk : k = g
        · subst hk
          rw [h6] at hx
          exact .inr ⟨h5, cur, (Option.some.inj hx).symm, hhg⟩
        · exact .inl ((hhp k hk).trans hx)
      · rw [← hset, hz, Nat.mul_one, Nat.mul_one]
        have e1 : cur.toList.take p = iis xs := by rw [← h10, Nat.mul_one]
        rw [e1, ← iis_snoc, List.take_left' (by simp [iis, hl])]
    · have e0 : c = p := by omega
      subst e0
      obtain ⟨g', c2, W', hr, hown, hbl⟩ := appClip 25 ty 3 1 8 (.int .i64 0) (by kernel_rfl) da_infoI rfl (W := W) (a := some ⟨g, 0, none⟩) (n := c) (olds := iis xs) (by simp [iis, hl]) (.inr ⟨g, 0, rfl, fun j u hj => by rw [Nat.zero_add]; exact ho'.cell j hj⟩) (b := b) (off := 0) (k := 1) (c' := 1) [.int .i64 x] rfl rfl (cells_at hb) (by omega)
      rw [iis_snoc] at hown
      exact ⟨_, W', hr, LeP.of_below _ _ hbl, g', c2, rfl, ⟨Nat.le_trans hBW hown.1, hown.2.1, hown.2.2.1, hown.2.2.2.imp id fun ⟨g0, cap, cu, e, k5, k6⟩ => ⟨g0, cap, cu, e, Nat.le_trans hBW k5, k6⟩⟩⟩
open Go.RowKit
abbrev LiI := List Int
def elL (Ls : List (List Int)) (j : Nat) : List Int := Ls.getD j []
def LsR (v : Nat) (Ls : List (List Int)) (cs : List Value) (W : World) : Prop := cs.length = Ls.length ∧ ∀ j, j < Ls.length → ∃ g c, cs[j]? = some (.slice (some ⟨g, 0, none⟩) (elL Ls j).length c) ∧ OwnR 3 1 v (elL Ls j).length (iis (elL Ls j)) g c W
theorem LsR.below {v : Nat} {Ls : List (List Int)} {cs : List Value} {W W' : World} (h : LsR v Ls cs W) (hb : Below W.heap.size W W') : LsR v Ls cs W' := ⟨h.1, fun j hj => by obtain ⟨g, c, e, ho⟩ := h.2 j hj; exact ⟨g, c, e, ho.below hb⟩⟩
theorem OwnR.blkT {T : TypeId} {z B n g c : Nat} {cs : List Value} {W : World} (h : OwnR T z B n cs g c W) : ∃ cur, W.heap[g]? = some (.cells cur T (0, 0)) := by
  rcases h.2.2.2 with ⟨e, -⟩ | ⟨g', cap, cur, e, h5, h6, -⟩
  · cases e
  · cases e; exact ⟨cur, h6⟩
theorem OwnR.sameT {T : TypeId} {z B n g c : Nat} {cs : List Value} {W W' : World} (h : OwnR T z B n cs g c W) (hs : W.heap.size ≤ W'.heap.size) (hk : ∀ o, W.heap[g]? = some o → W'.heap[g]? = some o) : OwnR T z B n cs g c W' := by
  refine ⟨h.1, Nat.lt_of_lt_of_le h.2.1 hs, h.2.2.1, ?_⟩
  rcases h.2.2.2 with h4 | ⟨g', cap, cur, e, h5, h6, h7⟩
  · exact .inl h4
  · cases e; exact .inr ⟨g, c, cur, rfl, h5, hk _ h6, h7⟩
theorem LsR.keep {v : Nat} {Ls : List (List Int)} {cs : List Value} {S : Nat → Prop} {W W' : World} (h : LsR v Ls cs W) (hk : KeepP S W W') (hS : ∀ b, S b → v ≤ b → ∀ cur, W.heap[b]? ≠ some (.cells cur 3 (0, 0))) : LsR v Ls cs W' := ⟨h.1, fun j hj => by
  obtain ⟨g, c, e, ho⟩ := h.2 j hj
  refine ⟨g, c, e, ho.sameT hk.size fun o ho' => hk.block _ _ (fun hs => ?_) ho'⟩
  obtain ⟨cur, hc⟩ := ho.blkT
  exact hS g hs ho.1 cur hc⟩
theorem elL_app_lt {Ls : List (List Int)} {x : List Int} {j : Nat} (h : j < Ls.length) : elL (Ls ++ [x]) j = elL Ls j := by
  unfold elL; rw [List.getD_eq_getElem?_getD, List.getD_eq_getElem?_getD, List.getElem?_append_left h]
theorem elL_app_eq (Ls : List (List Int)) (x : List Int) : elL (Ls ++ [x]) Ls.length = x := by
  unfold elL; rw [List.getD_eq_getElem?_getD, List.getElem?_concat_length]; rfl
theorem LsR.push {v g c : Nat} {Ls : List (List Int)} {xs : List Int} {cs : List Value} {W : World} (h : LsR v Ls cs W) (ho : OwnR 3 1 v xs.length (iis xs) g c W) : LsR v (Ls ++ [xs]) (cs ++ [.slice (some ⟨g, 0, none⟩) xs.length c]) W := by
  refine ⟨by simp [h.1], fun j hj => ?_⟩
  have hl := h.1
  rcases Nat.lt_or_ge j Ls.length with hj' | hj'
  · obtain ⟨g0, c0, e, h0⟩ := h.2 j hj'
    rw [elL_app_lt hj']
    exact ⟨g0, c0, by rw [List.getElem?_append_left (by omega)]; exact e, h0⟩
  · have e0 : j = Ls.length := by simp at hj; omega
    subst e0
    rw [elL_app_eq]
    exact ⟨g, c, by rw [List.getElem?_append_right (by omega), hl, Nat.sub_self]; rfl, ho⟩
theorem LsR.pop {v : Nat} {Ls : List (List Int)} {xs : List Int} {cs : List Value} {W : World} (h : LsR v (Ls ++ [xs]) cs W) : LsR v Ls (cs.take Ls.length) W ∧ ∃ g c, cs[Ls.length]? = some (.slice (some ⟨g, 0, none⟩) xs.length c) ∧ OwnR 3 1 v xs.length (iis xs) g c W := by
  have hl := h.1
  rw [List.length_append] at hl
  have hl' : cs.length = Ls.length + 1 := hl
  refine ⟨⟨by simp; omega, fun j hj => ?_⟩, ?_⟩
  · obtain ⟨g, c, e, ho⟩ := h.2 j (by simp; omega)
    rw [elL_app_lt hj] at e ho
    exact ⟨g, c, by rw [List.getElem?_take, if_pos hj]; exact e, ho⟩
  · obtain ⟨g, c, e, ho⟩ := h.2 Ls.length (by simp)
    rw [elL_app_eq] at e ho
    exact ⟨g, c, e, ho⟩
theorem OwnR.pop {T : TypeId} {B q g c : Nat} {cs : List Value} {W : World} (h : OwnR T 1 B (q + 1) cs g c W) : OwnR T 1 B q (cs.take q) g c W := by
  obtain ⟨h1, h2, h3, h4⟩ := h
  refine ⟨h1, h2, by simp [h3], ?_⟩
  rcases h4 with ⟨e, -⟩ | ⟨g', cap, cur, e, h5, h6, h7, h8, h9, h10⟩
  · cases e
  · cases e
    refine .inr ⟨g, c, cur, rfl, h5, h6, by omega, h8, h9, ?_⟩
    rw [← h10, List.take_take]
    congr 1
    omega
theorem ownR_made {T : TypeId} {B n g : Nat} {cs : Array Value} {W : World} (h : W.heap[g]? = some (.cells cs T (0, 0))) (hB : B ≤ g) (hn : cs.size = n) (hm : decide (n ≤ 1000) = true) : OwnR T 1 B n cs.toList g n W := by
  have hm' := of_decide_eq_true hm
  refine ⟨hB, ltb h, by simp [hn], .inr ⟨g, n, cs, rfl, hB, h, Nat.le_refl _, by unfold maxLen; omega, by omega, ?_⟩⟩
  rw [Nat.mul_one, List.take_of_length_le (by simp; omega)]
def GoodL (n : Nat) (xs : List Int) : Prop := (∀ x ∈ xs, 0 ≤ x ∧ x < (n : Int)) ∧ xs.Pairwise (· ≠ ·)
theorem GoodL.nil (n : Nat) : GoodL n [] := ⟨fun x h => (nomatch h), List.Pairwise.nil⟩
theorem GoodL.snoc {n : Nat} {xs : List Int} {x : Int} (h : GoodL n xs) (hx : 0 ≤ x ∧ x < (n : Int)) (hn : xs.contains x = false) : GoodL n (xs ++ [x]) := by
  refine ⟨fun y hy => ?_, List.pairwise_append.2 ⟨h.2, List.pairwise_singleton _ _, fun a ha b hb => ?_⟩⟩
  · rcases List.mem_append.1 hy with hy | hy
    · exact h.1 y hy
    · obtain rfl := List.mem_singleton.1 hy; exact hx
  · obtain rfl := List.mem_singleton.1 hb
    intro e
    subst e
    have : xs.contains a = true := List.contains_iff_mem.2 ha
    rw [hn] at this; cases this
def fM (n : Nat) : Nat → Nat
  | 0 => 1
  | d + 1 => 1 + n * fM n d
def muL (n many : Nat) : List (List Int) → Nat
  | [] => 0
  | l :: r => fM n (many - l.length) + muL n many r
theorem muL_snoc (n many : Nat) (l : List Int) : ∀ Ls, muL n many (Ls ++ [l]) = muL n many Ls + fM n (many - l.length)
  | [] => by simp [muL]
  | x :: r => by rw [List.cons_append, muL, muL_snoc n many l r, muL]; omega
theorem fM_pos (n : Nat) : ∀ d, 1 ≤ fM n d
  | 0 => Nat.le_refl _
  | d + 1 => Nat.le_add_right _ _
def AllG (n many : Nat) (Ls : List (List Int)) : Prop := ∀ l ∈ Ls, GoodL n l ∧ l.length ≤ many
theorem AllG.snoc {n many : Nat} {Ls : List (List Int)} {l : List Int} (h : AllG n many Ls) (hl : GoodL n l ∧ l.length ≤ many) : AllG n many (Ls ++ [l]) := fun y hy => by
  rcases List.mem_append.1 hy with hy | hy
  · exact h y hy
  · obtain rfl := List.mem_singleton.1 hy; exact hl
theorem AllG.pop {n many : Nat} {Ls : List (List Int)} {l : List Int} (h : AllG n many (Ls ++ [l])) : AllG n many Ls ∧ GoodL n l ∧ l.length ≤ many := ⟨fun y hy => h y (List.mem_append_left _ hy), h l (by simp)⟩
theorem snoc_of_len {Ls : List (List Int)} {q : Nat} (h : Ls.length = q + 1) : ∃ L0 l, Ls = L0 ++ [l] ∧ L0.length = q := by
  refine ⟨Ls.dropLast, Ls.getLast (by intro e; rw [e] at h; cases h), (List.dropLast_concat_getLast _).symm, by simp [h]⟩
theorem clone_all {v g c : Nat} {xs : List Int} {w : World} (h : OwnR 3 1 v xs.length (iis xs) g c w) (hn : xs.length ≤ 1000) :
    Calls Try.prog 66 #[.slice (some ⟨g, 0, none⟩) xs.length c] w fun e w' => ∃ g' c', e = .returned (.slice (some ⟨g', 0, none⟩) xs.length c') ∧ OwnR 3 1 w.heap.size xs.length (iis xs) g' c' w' ∧ Below w.heap.size w w' := by
  refine (Try.slices_Clone_int g 0 xs.length c xs w (Nat.le_refl _) (by omega) (fun j hj => ?_)).mono ?_
  · rw [Nat.zero_add]; refine h.cell j ?_
    unfold iis; rw [List.getElem?_map, List.getElem?_eq_getElem hj, List.getD_eq_getElem?_getD, List.getElem?_eq_getElem hj]; rfl
  · rintro e w' ⟨v', rfl, ho, hne, hb⟩
    rcases ho.2 with ⟨rfl, -⟩ | ⟨g', cap, cur, rfl, h5, h6, h7⟩
    · exact absurd rfl hne
    · refine ⟨g', cap, rfl, ?_, hb⟩
      rw [List.take_of_length_le (Nat.le_refl _)] at ho
      exact ⟨h5, ltb h6, ho⟩
theorem contains_all {v g c : Nat} {xs : List Int} {x : Int} {w : World} (h : OwnR 3 1 v xs.length (iis xs) g c w) (hn : xs.length ≤ 1000) :
    Calls Try.prog 84 #[.slice (some ⟨g, 0, none⟩) xs.length c, .int .i64 x] w fun e w' => e = .returned (.bool (xs.contains x)) ∧ Below w.heap.size w w' := by
  refine (Try.slices_Contains_int g 0 xs.length c xs x w (Nat.le_refl _) (by omega) (fun j hj => ?_)).mono ?_
  · rw [Nat.zero_add]; refine h.cell j ?_
    unfold iis; rw [List.getElem?_map, List.getElem?_eq_getElem hj, List.getD_eq_getElem?_getD, List.getElem?_eq_getElem hj]; rfl
  · rintro e w' ⟨rfl, rfl⟩
    rw [List.take_of_length_le (Nat.le_refl _)]
    exact ⟨rfl, Below.refl _ _⟩
theorem OwnR.lowT {T : TypeId} {z B B' n g c : Nat} {cs : List Value} {W : World} (h : OwnR T z B n cs g c W) (hB : B' ≤ B) : OwnR T z B' n cs g c W := ⟨Nat.le_trans hB h.1, h.2.1, h.2.2.1, h.2.2.2.imp id fun ⟨g0, cap, cu, e, k5, k6⟩ => ⟨g0, cap, cu, e, Nat.le_trans hB k5, k6⟩⟩
theorem ownR_neT {T T' : TypeId} {z z' B B' n n' g g' c c' : Nat} {cs cs' : List Value} {W : World} (h : OwnR T z B n cs g c W) (h' : OwnR T' z' B' n' cs' g' c' W) (hT : (T != T') = true) : g ≠ g' := fun e => by
  obtain ⟨a, ha⟩ := h.blkT
  obtain ⟨b, hb⟩ := h'.blkT
  rw [e, hb] at ha
  have := (Obj.cells.inj (Option.some.inj ha)).2.1
  rw [this] at hT
  simp at hT
theorem OwnR.otN {T T' : TypeId} {z z' B B' n n' g c c' : Nat} {cs cs' : List Value} {a : Option Addr} {W W' : World} (h : OwnR T z B n cs g c W) (ho : OwnN T' z' B' n' cs' a c' W) (hot : ∀ k y, (∀ g, a = some ⟨g, 0, none⟩ → g ≠ k) → W.heap[k]? = some y → W'.heap[k]? = some y) (hz : W.heap.size ≤ W'.heap.size) (hT : (T != T') = true) : OwnR T z B n cs g c W' :=
  h.sameT hz fun o hx => hot _ _ (fun g' e => by
    rcases ho with ⟨x1, x2, x3, x4⟩ | ⟨g2, e', hr⟩
    · first | (rw [x1] at e; cases e) | (rw [x3] at e; cases e)
    · rw [e'] at e; cases e
      exact fun e2 => ownR_neT h hr hT e2.symm) hx
theorem LsR.otN {v : Nat} {Ls : List (List Int)} {cs : List Value} {T' : TypeId} {z' B' n' c' : Nat} {cs' : List Value} {a : Option Addr} {W W' : World} (h : LsR v Ls cs W) (ho : OwnN T' z' B' n' cs' a c' W) (hot : ∀ k y, (∀ g, a = some ⟨g, 0, none⟩ → g ≠ k) → W.heap[k]? = some y → W'.heap[k]? = some y) (hz : W.heap.size ≤ W'.heap.size) (hT : (3 != T') = true) : LsR v Ls cs W' :=
  ⟨h.1, fun j hj => by obtain ⟨g, c, e, h1⟩ := h.2 j hj; exact ⟨g, c, e, h1.otN ho hot hz hT⟩⟩
theorem LsR.push' {v g c k : Nat} {Ls : List (List Int)} {xs : List Int} {cs : List Value} {W : World} (h : LsR v Ls cs W) (hk : xs.length = k) (ho : OwnR 3 1 v k (iis xs) g c W) : LsR v (Ls ++ [xs]) (cs ++ [.slice (some ⟨g, 0, none⟩) k c]) W := by subst hk; exact h.push ho
theorem ownR_le {T : TypeId} {z B n g c : Nat} {cs : List Value} {W : World} (h : OwnR T z B n cs g c W) : n ≤ c := by
  rcases h.2.2.2 with ⟨e, -⟩ | ⟨g', cap, cur, e, -, -, h7, -⟩
  · cases e
  · cases e; exact h7
theorem ownR_len {T : TypeId} {B n g c : Nat} {cs : List Value} {W : World} (h : OwnR T 1 B n cs g c W) : cs.length = n := by rw [h.2.2.1, Nat.mul_one]
theorem len_mu (n many : Nat) : ∀ Ls, Ls.length ≤ muL n many Ls
  | [] => Nat.le_refl _
  | l :: r => by have := len_mu n many r; have := fM_pos n (many - l.length); rw [muL, List.length_cons]; omega
theorem fM_bd : ∀ n, n < 7 → ∀ d, d < 7 → fM n d ≤ 100000 := by decide
theorem fM_succ {n d e : Nat} (h : d = e + 1) : fM n d = 1 + n * fM n e := by subst h; rfl
theorem setRow_le {v b : Nat} {cs : Array Value} {W W' : World} (h : v ≤ W.heap.size) (hW : W' = W.setRow b cs) : v ≤ W'.heap.size := by subst hW; simpa [World.setRow] using h
open Go.RowKit Go.Shelf
theorem range_gn {n : Nat} {P : Program} {g : Operand} {ps : Array Tmp} {assign body : Code} {Q : Exit → Act → World → Prop} {a : Act} {w : World} {gf : Nat} {rcv lb : Array Value}
    (hg : a.eval g = .func (.func gf) rcv lb) (eg : ∀ args w, (callFunc gf args).run P w = .ok (.enter gf args) w) (Ok Fin : Nat → Prop) (E : Nat → (Nat → Prop) → Array Value → World → Prop) (hps : ∀ i G v W, E i G v W → v.size = ps.size)
    (I : Nat → (Nat → Prop) → World → Prop) (hI : StabG I w.heap.size) (IS : (Nat → Prop) → World → Prop) (hIS : StabS IS w.heap.size) (G0 : Nat → Prop) (hG0 : ∀ b, G0 b → b < w.heap.size)
    (hit : ∀ (l : Nat) (W1 : World) (J : Nat → (Nat → Prop) → World → Prop) (S : (Nat → Prop) → World → Prop), w.heap.size ≤ l → l < W1.heap.size → Below w.heap.size w W1 → StabG J W1.heap.size → StabS S W1.heap.size → (∀ i G W, J i G W → I i G W) → (∀ G W, S G W → IS G W) →
      (∀ i G W v, Ok i → J i G W → W1.heap.size ≤ W.heap.size → E i G v W → YieldAt Fence.wide (n - 1 - 1) P l v W (YldE l J S i G W)) → J 0 G0 W1 →
      CallsIn Fence.wide (n - 1) P gf (rcv ++ #[.func (.yield l) #[] #[]] ++ lb) W1 fun e W' => (∃ v, e = .returned v) ∧ ((∃ i G, Fin i ∧ J i G W') ∨ ∃ G, S G W'))
    (h0 : I 0 G0 w) (A : Nat → (Nat → Prop) → Act → World → Prop) (hAp : ∀ i G a' W r o, W.heap[w.heap.size + 1]? = some (.loop r) → A i G a' W → A i G a' (W.putObj (w.heap.size + 1) o))
    (hassign : ∀ (l i : Nat) (G : Nat → Prop) (W : World) (v : Array Value) (K : Act → World → Prop), Ok i → I i G W → w.heap.size + 1 < W.heap.size → E i G v W → (∀ a' W', Below W.heap.size W W' → A i G a' W' → K a' W') → assign.wpIn (Fence.wide.inRound l) (n - 1 - 1) P (Exit.then K fun _ _ _ => False) { tmps := (ps.zip v).foldl (fun t (p, v) => t.setIfInBounds p v) a.tmps, defers := [] } W)
    (hbody : ∀ (l i : Nat) (G : Nat → Prop) (a' : Act) (W : World), Ok i → I i G W → A i G a' W → body.wpIn (Fence.wide.inRound l) (n - 1 - 1) P (fun e _ W' => (e = .normal ∧ ∃ G', I (i + 1) G' W' ∧ KeepP G W W' ∧ ∀ b, G' b → G b ∨ W.heap.size ≤ b) ∨ (e = .ret ∧ ∃ G', IS G' W' ∧ KeepP G W W' ∧ ∀ b, G' b → G b ∨ W.heap.size ≤ b)) a' W)
    (hdone : ∀ (D i : Nat) (G : Nat → Prop) (W : World), w.heap.size ≤ D → ¬ G D → Fin i → I i G W → W.heap[D]? = some (.deferred (some [])) → Q .normal { a with defers := { target := .collected D, args := #[] } :: a.defers } W)
    (hstop : ∀ (D : Nat) (G : Nat → Prop) (W : World), w.heap.size ≤ D → ¬ G D → IS G W → W.heap[D]? = some (.deferred (some [])) → Q .ret { a with defers := { target := .collected D, args := #[] } :: a.defers } W) :
    (Code.rangeFunc g ps assign body).wpIn Fence.wide n P Q a w := by
  refine wpIn_rangeFunc fun fn _ => ?_
  obtain ⟨rc, hrc⟩ : ∃ rc : LoopState → Option Code → Loop, ∀ st pe, rc st pe = { state := st, pending := pe, fn, tmps := a.tmps, params := ps, assign, body, defers := w.heap.size } := ⟨_, fun _ _ => rfl⟩
  obtain ⟨V, hV⟩ : ∃ V, (w.alloc (.deferred (some []))).alloc (.loop (rc .ready none)) = V := ⟨_, rfl⟩
  have hbV : Below w.heap.size w V := hV ▸ ((Below.refl _ w).alloc (Nat.le_refl _) _).alloc (by simp) _
  have hL : V.heap[w.heap.size + 1]? = some (.loop (rc .ready none)) := by
    rw [← hV]; have := World.alloc_heap_new (w.alloc (.deferred (some []))) (.loop (rc .ready none)); rwa [World.size_alloc] at this
  have hD : V.heap[w.heap.size]? = some (.deferred (some [])) := by
    rw [← hV]; exact (Below.heap_alloc _ _ _ (by simp)).trans (World.alloc_heap_new w _)
  have hlV := (Array.getElem?_eq_some_iff.1 hL).1
  refine ⟨w.heap.size + 1, [{ target := .collected w.heap.size, args := #[] }], V, { target := .fn (.func gf) lb, args := rcv ++ #[.func (.yield (w.heap.size + 1)) #[] #[]] }, V, gf, rcv ++ #[.func (.yield (w.heap.size + 1)) #[] #[]] ++ lb, V, ?_, ?_, fun _ _ => trivial, ?_, fun h => by simp [Fence.wide] at h, ?_⟩
  · rw [← hV, hrc]; exact run_enterLoop_outer _ _ _ _ _
  · simp only [resolve, hg]
    simp [go_sem]
  · simp [invoke, go_sem, eg]
  · have keep : ∀ {A B : World} {k : Nat} {o : Obj}, A.heap[k]? = some o → Below A.heap.size A B → B.heap[k]? = some o := fun hx hb => (hb.block _ (Array.getElem?_eq_some_iff.1 hx).1).trans hx
    refine (hit (w.heap.size + 1) V (fun i G W => I i G W ∧ W.heap[w.heap.size + 1]? = some (.loop (rc .ready none)) ∧ W.heap[w.heap.size]? = some (.deferred (some [])) ∧ ¬ G (w.heap.size + 1) ∧ ¬ G w.heap.size) (fun G W => IS G W ∧ W.heap[w.heap.size + 1]? = some (.loop { rc .ready none with state := .done, pending := some .ret }) ∧ W.heap[w.heap.size]? = some (.deferred (some [])) ∧ ¬ G (w.heap.size + 1) ∧ ¬ G w.heap.size) (Nat.le_succ _) hlV hbV ?_ ?_ (fun _ _ _ h => h.1) (fun _ _ h => h.1) ?_ ⟨hI.below h0 hbV, hL, hD, fun h => by have := hG0 _ h; omega, fun h => by have := hG0 _ h; omega⟩).mono ?_
    · rintro i G W W' ⟨h1, h2, h3, h4, h5⟩ hk
      exact ⟨hI i G W W' h1 (hk.more fun k hk => ⟨by have := hbV.size; omega, hk.2⟩), hk.block _ _ (fun e => by omega) h2, hk.block _ _ (fun e => by omega) h3, h4, h5⟩
    · rintro G W W' ⟨h1, h2, h3, h4, h5⟩ hk
      exact ⟨hIS G W W' h1 (hk.more fun k hk => ⟨by have := hbV.size; omega, hk.2⟩), hk.block _ _ (fun e => by omega) h2, hk.block _ _ (fun e => by omega) h3, h4, h5⟩
    · rintro i G W v hi ⟨hI0, hl, hd, hn1, hn2⟩ hsz hv
      have hy := run_yield (P := P) (args := v) hl (by rw [hrc]; exact hps i G v W hv)
      rw [hrc] at hy
      refine ⟨fn, _, assign, body, hy, roundIn_of_wpIn trivial (hassign _ i G W v _ hi hI0 (Array.getElem?_eq_some_iff.1 hl).1 hv fun a' W0 hb0 hA0 => ⟨_, run_beginRound (keep hl hb0) (by rw [hrc]), ?_⟩)⟩
      have hl0 := keep hl hb0
      have hd0 := keep hd hb0
      have hI0' : I i G W0 := hI.below hI0 hb0
      obtain ⟨Xx, hXx⟩ : ∃ X, W0.putObj (w.heap.size + 1) (.loop { rc .ready none with state := .busy }) = X := ⟨_, rfl⟩
      rw [hXx]
      have hlX : Xx.heap[w.heap.size + 1]? = some (.loop { rc .ready none with state := .busy }) := hXx ▸ World.putObj_heap_same (Array.getElem?_eq_some_iff.1 hl0).1
      have hoX : ∀ k, k ≠ w.heap.size + 1 → Xx.heap[k]? = W0.heap[k]? := fun k hk => hXx ▸ World.putObj_heap_other (fun e => hk e)
      have hIX : I i G Xx := hXx ▸ hI i G W0 _ hI0' (keepP_put (by omega) hn1 hl0)
      have hAX : A i G a' Xx := hXx ▸ hAp i G a' W0 _ _ hl0 hA0
      have hzX : W.heap.size ≤ Xx.heap.size := by rw [← hXx, putObj_size]; exact hb0.size
      refine wpIn_mono (hbody _ i G a' Xx hi hIX hAX) ?_
      rintro e a3 Y (⟨rfl, G', hI3, hk, hG'⟩ | ⟨rfl, G', hS3, hk, hG'⟩)
      · have hlY := hk.block _ _ hn1 hlX
        have hr := run_endRound (P := P) none hlY
        obtain ⟨Z, hZ⟩ : ∃ Z, Y.putObj (w.heap.size + 1) (.loop { { rc .ready none with state := .busy } with state := if (none : Option Code).isNone then .ready else .done, pending := none }) = Z := ⟨_, rfl⟩
        rw [hZ] at hr
        have hlZ : Z.heap[w.heap.size + 1]? = some (.loop (rc .ready none)) := by
          rw [← hZ, World.putObj_heap_same (Array.getElem?_eq_some_iff.1 hlY).1, hrc]; rfl
        have hoZ : ∀ k, k ≠ w.heap.size + 1 → Z.heap[k]? = Y.heap[k]? := fun k hk => hZ ▸ World.putObj_heap_other (fun e => hk e)
        have hszl := (Array.getElem?_eq_some_iff.1 hlX).1
        have hn1' : ¬ G' (w.heap.size + 1) := fun h => (hG' _ h).elim hn1 (fun h => by omega)
        have hn2' : ¬ G' w.heap.size := fun h => (hG' _ h).elim hn2 (fun h => by omega)
        refine ⟨_, _, hr, .inl ⟨rfl, G', ⟨hZ ▸ hI _ _ Y _ hI3 (keepP_put (by omega) hn1' hlY), hlZ, ?_, hn1', hn2'⟩, ?_, fun b hb => (hG' b hb).imp id fun h => Nat.le_trans hzX h⟩⟩
        · rw [hoZ _ (by omega)]
          exact hk.block _ _ hn2 ((hoX _ (by omega)).trans hd0)
        · refine ⟨?_, ?_, ?_, ?_, fun k o hk2 hx => ?_⟩
          · rw [← hZ]; exact hk.os.trans ((hXx ▸ rfl : Xx.os = W0.os).trans hb0.os)
          · rw [← hZ]; exact hk.tape.trans ((hXx ▸ rfl : Xx.tape = W0.tape).trans hb0.tape)
          · rw [← hZ]; exact hk.output.trans ((hXx ▸ rfl : Xx.output = W0.output).trans hb0.output)
          · rw [← hZ, putObj_size]; have := hk.size; omega
          · by_cases e : k = w.heap.size + 1
            · subst e; rw [hlZ, ← hl, hx]
            · rw [hoZ k e]; exact hk.block k o hk2 ((hoX k e).trans (keep hx hb0))
      · have hlY := hk.block _ _ hn1 hlX
        have hr := run_endRound (P := P) (some .ret) hlY
        obtain ⟨Z, hZ⟩ : ∃ Z, Y.putObj (w.heap.size + 1) (.loop { { rc .ready none with state := .busy } with state := if (some Code.ret).isNone then .ready else .done, pending := some .ret }) = Z := ⟨_, rfl⟩
        rw [hZ] at hr
        have hlZ : Z.heap[w.heap.size + 1]? = some (.loop { rc .ready none with state := .done, pending := some .ret }) := by
          rw [← hZ, World.putObj_heap_same (Array.getElem?_eq_some_iff.1 hlY).1, hrc]; rfl
        have hoZ : ∀ k, k ≠ w.heap.size + 1 → Z.heap[k]? = Y.heap[k]? := fun k hk => hZ ▸ World.putObj_heap_other (fun e => hk e)
        have hszl := (Array.getElem?_eq_some_iff.1 hlX).1
        have hn1' : ¬ G' (w.heap.size + 1) := fun h => (hG' _ h).elim hn1 (fun h => by omega)
        have hn2' : ¬ G' w.heap.size := fun h => (hG' _ h).elim hn2 (fun h => by omega)
        refine ⟨_, _, hr, .inr ⟨rfl, G', ⟨hZ ▸ hIS _ Y _ hS3 (keepP_put (by omega) hn1' hlY), hlZ, ?_, hn1', hn2'⟩, ?_⟩⟩
        · rw [hoZ _ (by omega)]
          exact hk.block _ _ hn2 ((hoX _ (by omega)).trans hd0)
        · refine ⟨?_, ?_, ?_, ?_, fun k o hk2 hx => ?_⟩
          · rw [← hZ]; exact hk.os.trans ((hXx ▸ rfl : Xx.os = W0.os).trans hb0.os)
          · rw [← hZ]; exact hk.tape.trans ((hXx ▸ rfl : Xx.tape = W0.tape).trans hb0.tape)
          · rw [← hZ]; exact hk.output.trans ((hXx ▸ rfl : Xx.output = W0.output).trans hb0.output)
          · rw [← hZ, putObj_size]; have := hk.size; omega
          · have e : k ≠ w.heap.size + 1 := fun e => hk2 (.inr e)
            rw [hoZ k e]; exact hk.block k o (fun h => hk2 (.inl h)) ((hoX k e).trans (keep hx hb0))
    · rintro e W2 ⟨⟨v, rfl⟩, ⟨i, G, hfin, hI2, hl, hd, hn1, hn2⟩ | ⟨G, hS2, hl, hd, hn1, hn2⟩⟩
      · have hr := run_endLoop (P := P) hl (by rw [hrc]; simp)
        refine ⟨none, _, by rw [hr, hrc], hdone _ i G _ (Nat.le_refl _) hn2 hfin (hI _ _ _ _ hI2 (keepP_put (by omega) hn1 hl)) ((World.putObj_heap_other (by omega)).trans hd)⟩
      · have hr := run_endLoop (P := P) hl (by simp)
        refine ⟨some .ret, _, hr, wpIn_ret (hstop _ G _ (Nat.le_refl _) hn2 (hIS _ _ _ hS2 (keepP_put (by omega) hn1 hl)) ((World.putObj_heap_other (by omega)).trans hd))⟩
theorem rgI_stabN {w W0 : World} {G0 : Nat → Prop} {P : Nat → (Nat → Prop) → World → Prop} (h0 : w.heap.size ≤ W0.heap.size) (hP : ∀ i G W W', P i G W → KeepP (fun b => W0.heap.size ≤ b ∧ ¬ G b ∧ NoCells W b) W W' → P i G W') : StabG (RgI w W0 G0 P) W0.heap.size := by
  rintro i G W W' ⟨h1, h2, h3⟩ hk
  exact ⟨h1.trans (hk.below (fun b hb => Nat.le_trans h0 hb.1) h1.size), h2.trans (hk.more fun b hb => .inr hb.1), hP i G W W' h3 hk⟩
end Go.Proofs.Ytcgccflcjejlhaa
