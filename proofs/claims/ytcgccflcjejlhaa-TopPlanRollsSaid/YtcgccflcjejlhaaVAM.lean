/- Part of the proof: what the claim leans on. -/
import Derived.Test.YtcgccflcjejlhaaVAL
import Derived.Test.YtcgccflcjejlhaaVAI
import Derived.Test.YtcgccflcjejlhaaVAC
import Derived.Test.YtcgccflcjejlhaaVAH
set_option maxHeartbeats 400000
set_option maxRecDepth 100000
set_option linter.unusedSimpArgs false
set_option linter.unusedVariables false
namespace Go.Proofs.Ytcgccflcjejlhaa
open Go.RowKit
theorem infoI : (Try.prog.info? 3).map (fun i => (i.zero, i.size, i.bytes)) = some (some (.int .i64 0), 1, 8) := by kernel_rfl
open Go.RowKit
def AdOk (a : Option Addr) (n : Nat) : Prop := (n = 0 ∧ a = none) ∨ ∃ b o, a = some ⟨b, o, none⟩
theorem AdOk.clip {a : Option Addr} {n k : Nat} (h : AdOk a n) : (if n = 0 then a else Option.map (fun x : Addr => x.add (0 * k)) a) = a := by
  rcases h with ⟨h, e⟩ | ⟨b, o, e⟩
  · rw [if_pos h]
  · subst e
    split
    · rfl
    · simp [Addr.add]
theorem appClip (sl ty T : TypeId) (z by_ : Nat) (zero : Value) (hu : Try.prog.underlying sl = some (.slice T)) (hi : (Try.prog.info? T).map (fun i => (i.zero, i.size, i.bytes)) = some (some zero, z, by_)) (hzz : decide (0 < z ∧ zero.cells.size = z) = true)
    {W : World} {a : Option Addr} {n : Nat} {olds : List Value} (hlo : olds.length = n * z) (ho : (n = 0 ∧ a = none) ∨ ∃ b o, a = some ⟨b, o, none⟩ ∧ ∀ j u, olds[j]? = some u → W.cell? ⟨b, o + j, none⟩ = some u)
    {b off k c' : Nat} (es : List Value) (hel : decide (es.length = k * z ∧ 0 < k) = true) (h1 : es.all (·.oneCell') = true) (hb : ∀ j u, es[j]? = some u → W.cell? ⟨b, off + j, none⟩ = some u) (hn : (n + k) * (by_ + 1) ≤ 1000000000) :
    ∃ g' c2 W', (Builtin.append_ #[sl, sl] ty #[.slice a n n, .slice (some ⟨b, off, none⟩) k c']).run Try.prog W = .ok (.slice (some ⟨g', 0, none⟩) (n + k) c2) W' ∧ OwnR T z W.heap.size (n + k) (olds ++ es) g' c2 W' ∧ Below W.heap.size W W' := by
  rcases ho with ⟨h0, ha⟩ | ⟨b0, o0, ha, hc⟩
  · subst h0 ha
    obtain rfl : olds = [] := List.eq_nil_of_length_eq_zero (by omega)
    obtain ⟨g', c2, W', h2, h3, -, -, -, h6⟩ := growR_nil (w := W) (W := W) sl ty T z by_ zero hu hi hzz (0 + k) (c' := c') es (Below.refl _ _) rfl hel h1 hb (decide_eq_true hn)
    exact ⟨g', c2, W', h2, h3, h6⟩
  · subst ha
    obtain ⟨hz0, hzs⟩ := of_decide_eq_true hzz
    obtain ⟨hel, hk⟩ := of_decide_eq_true hel
    obtain ⟨i0, hi, hz0', hz1, hz2⟩ := info_parts hi
    have hnk : n + k ≤ (n + k) * (by_ + 1) := Nat.le_mul_of_pos_right _ (Nat.succ_pos _)
    have hnb : (n + k) * by_ ≤ (n + k) * (by_ + 1) := Nat.mul_le_mul_left _ (Nat.le_succ _)
    obtain ⟨v, W', hr, hown, hgr⟩ := run_append_arg_grows (P := Try.prog) W sl ty T i0 zero z by_ hu hi hz0' hz1 hz2 hzs hz0 ⟨b0, o0, none⟩ n n olds hlo (fun j u hj => by rw [add_plain']; exact hc j u hj) ⟨b, off, none⟩ k c' es hel
      (fun j u hj => by rw [add_plain']; exact hb j u hj) (by omega) (by unfold maxLen; omega) (by omega)
    obtain ⟨g2, cap2, rfl⟩ := Joins.ownsRow_form hown (by omega)
    exact ⟨g2, cap2, W', hr, ⟨own_ge hown g2 rfl, own_lt' hown, hown⟩, (Below.refl _ _).grown hgr (Nat.le_refl _) (fun k e => by cases e)⟩
theorem Ii.olds {W : World} {a : Option Addr} {n c : Nat} {xs : List Int} (h : Ii W a n c xs) (ha : AdOk a n) : (n = 0 ∧ a = none) ∨ ∃ b o, a = some ⟨b, o, none⟩ ∧ ∀ j u, (iis xs)[j]? = some u → W.cell? ⟨b, o + j, none⟩ = some u := by
  rcases ha with ha | ⟨b, o, rfl⟩
  · exact .inl ha
  · refine .inr ⟨b, o, rfl, fun j u hj => ?_⟩
    have hlt : j < xs.length := by
      rcases Nat.lt_or_ge j xs.length with h' | h'
      · exact h'
      · rw [List.getElem?_eq_none (by simpa [iis] using h')] at hj; cases hj
    obtain ⟨b', o', e, -, hc⟩ := h.at (by omega)
    cases e
    rw [hc j hlt]
    unfold iis at hj
    rw [List.getElem?_map, List.getElem?_eq_getElem hlt] at hj
    simp only [Option.map_some, Option.some.injEq] at hj
    rw [← hj, List.getD_eq_getElem?_getD, List.getElem?_eq_getElem hlt]; rfl
theorem appClipI (ty : TypeId) {W : World} {a : Option Addr} {n b : Nat} {xs : List Int} {x : Int} (h : Ii W a n n xs) (ha : AdOk a n) (hb : W.heap[b]? = some (.cells #[.int .i64 x] 3 (0, 0))) (hn : n ≤ 1000) :
    ∃ v W', (Builtin.append_ #[25, 25] ty #[.slice a n n, .slice (some ⟨b, 0, none⟩) 1 1]).run Try.prog W = .ok v W' ∧ Below W.heap.size W W' ∧ NwIi W.heap.size (xs ++ [x]) v W' := by
  have hl : xs.length = n := h.1.symm
  obtain ⟨g', c2, W', hr, ho, hb'⟩ := appClip 25 ty 3 1 8 (.int .i64 0) Try.underlying25 infoI rfl (W := W) (a := a) (n := n) (olds := iis xs) (by simp [iis, hl]) (h.olds ha) (b := b) (off := 0) (k := 1) (c' := 1) [.int .i64 x] rfl rfl (cells_at hb) (by omega)
  have hl2 : (xs ++ [x]).length = n + 1 := by simp [hl]
  refine ⟨_, W', hr, hb', g', c2, by rw [hl2], ?_, ho.1, ho.2.1⟩
  have : OwnI W.heap.size (xs ++ [x]) g' c2 W' := by
    refine ⟨ho.1, ho.2.1, ?_⟩
    rw [hl2, List.map_append]; exact ho.2.2
  exact this.ii
def patL (p : Tp) (os : Nat → To) (no : Nat) : Nat → List Int → List (List Int)
  | 0, xs => if patF p os xs no then [xs] else []
  | d + 1, xs => (List.range (p.webs.toNat + 1)).flatMap fun k : Nat => patL p os no d (xs ++ [(k : Int)])
def patN (p : Tp) (os : Nat → To) (no d : Nat) (xs : List Int) : Nat → Nat
  | 0 => 0
  | k + 1 => patN p os no d xs k + (patL p os no d (xs ++ [(k : Int)])).length
theorem flat_at {α : Type} (f : Nat → List α) (N : Nat → Nat) (h0 : N 0 = 0) (hs : ∀ k, N (k + 1) = N k + (f k).length) : ∀ (m k j : Nat), k < m → j < (f k).length → ((List.range m).flatMap f)[N k + j]? = (f k)[j]?
  | 0, _, _, h, _ => absurd h (Nat.not_lt_zero _)
  | m + 1, k, j, h, hj => by
    have hlen : ∀ m, ((List.range m).flatMap f).length = N m := by
      intro m
      induction m with
      | zero => simp [h0]
      | succ m ih => rw [List.range_succ, List.flatMap_append, List.length_append, ih, hs]; simp
    have hmono : ∀ a b, a ≤ b → N a ≤ N b := by
      intro a b hab
      induction b with
      | zero => have : a = 0 := by omega
                subst this; exact Nat.le_refl _
      | succ b ih => rcases Nat.lt_or_ge a (b + 1) with h | h
                     · exact Nat.le_trans (ih (by omega)) (by rw [hs]; omega)
                     · have : a = b + 1 := by omega
                       subst this; exact Nat.le_refl _
    rw [List.range_succ, List.flatMap_append]
    by_cases e : k = m
    · subst e
      rw [List.getElem?_append_right (by rw [hlen]; omega), hlen, Nat.add_sub_cancel_left]; simp
    · have := hmono (k + 1) m (by omega)
      rw [hs] at this
      rw [List.getElem?_append_left (by rw [hlen]; omega)]
      exact flat_at f N h0 hs m k j (by omega) hj
theorem flat_len {α : Type} (f : Nat → List α) (N : Nat → Nat) (h0 : N 0 = 0) (hs : ∀ k, N (k + 1) = N k + (f k).length) : ∀ m, ((List.range m).flatMap f).length = N m
  | 0 => by simp [h0]
  | m + 1 => by rw [List.range_succ, List.flatMap_append, List.length_append, flat_len f N h0 hs m, hs]; simp
theorem patN_end (p : Tp) (os : Nat → To) (no d : Nat) (xs : List Int) : patN p os no d xs (p.webs.toNat + 1) = (patL p os no (d + 1) xs).length := (flat_len (fun k : Nat => patL p os no d (xs ++ [(k : Int)])) (patN p os no d xs) rfl (fun _ => rfl) _).symm
theorem patL_at (p : Tp) (os : Nat → To) (no d : Nat) (xs : List Int) {k j : Nat} (hk : k < p.webs.toNat + 1) (hj : j < (patL p os no d (xs ++ [(k : Int)])).length) : (patL p os no (d + 1) xs).getD (patN p os no d xs k + j) [] = (patL p os no d (xs ++ [(k : Int)])).getD j [] := by
  rw [List.getD_eq_getElem?_getD, List.getD_eq_getElem?_getD]
  exact congrArg (·.getD []) (flat_at (fun k : Nat => patL p os no d (xs ++ [(k : Int)])) (patN p os no d xs) rfl (fun _ => rfl) _ _ _ hk hj)
theorem patN_le (p : Tp) (os : Nat → To) (no d : Nat) (xs : List Int) {k : Nat} (hk : k < p.webs.toNat + 1) : patN p os no d xs k + (patL p os no d (xs ++ [(k : Int)])).length ≤ (patL p os no (d + 1) xs).length := by
  rw [← patN_end]
  have : ∀ a b, a ≤ b → patN p os no d xs a ≤ patN p os no d xs b := by
    intro a b hab
    induction b with
    | zero => have : a = 0 := by omega
              subst this; exact Nat.le_refl _
    | succ b ih => rcases Nat.lt_or_ge a (b + 1) with h | h
                   · exact Nat.le_trans (ih (by omega)) (by rw [patN]; omega)
                   · have : a = b + 1 := by omega
                     subst this; exact Nat.le_refl _
  exact this (k + 1) _ (by omega)
theorem clipI_any (a : Option Addr) (n c : Nat) (w : World) (ha : AdOk a n) (hnc : n ≤ c) :
  Calls Try.prog 143 #[.slice a n c] w (fun e w' => e = .returned (.slice a n n) ∧ Below w.heap.size w w') := by
 refine calls_fr Try.func143 Try.ntmps143 rfl rfl fun g hg => ?_
 have k0 : g 0 = .slice a n c := hg 0
 clear hg
 have fB0 : Below w.heap.size w w := Below.refl _ _
 refine rw_ 1 [(2, 0)] [[]] (rel [is (.slice none 0 0)])
  ⟨fun f s W d h i j l b => opv rfl rfl (by simp [go_sem]) rfl, trivial⟩ ?_
 intro f1 s1 W1 hB1 g1 hg1 z1
 have k1_0 := kt hg1 0 k0
 refine rw_ 7 [(3, 0), (4, 1), (5, 2), (6, 3), (7, 4), (8, 5), (2, 6)] [[], [], [1], [], [3], [0, 2, 4], [5]] (rel [is (.slice a n c), is (.slice a n c), iI ((n : Int)), is (.slice a n c), iI ((n : Int)), is (.slice a n n), is (.slice a n n)])
  ⟨fun f s W d h i j l b => opm (b.v 0 k1_0),
  fun f s W d h i j l b => opm (b.v 0 k1_0),
  fun f s W d h i j l b => opv rfl rfl (by simp [go_sem, b.e 4 (h 1 rfl)]) rfl,
  fun f s W d h i j l b => opm (b.v 0 k1_0),
  fun f s W d h i j l b => opv rfl rfl (by simp [go_sem, b.e 6 (h 3 rfl)]) rfl,
  fun f s W d h i j l b => by have h0_ : ∀ k : Nat, (if n = 0 then a else Option.map (fun x : Addr => x.add (0 * k)) a) = a := fun k => AdOk.clip ha; exact opv rfl rfl (by simp [go_sem, b.e 3 (h 0 rfl), b.e 5 (h 2 rfl), b.e 7 (h 4 rfl), h0_, hnc]) rfl,
  fun f s W d h i j l b => opm (b.v 8 (h 5 rfl)), trivial⟩ ?_
 intro f2 s2 W2 hB2 g2 hg2 z2
 have fB2 := hB2.f (hB1.f fB0)
 have k2_2 := kt hg2 2 (hB2.is 6)
 refine wp_ret ?_
 refine leave_one (N := 9) (.inr rfl) Try.results143 rfl k2_2 ?_
 exact ⟨rfl, fB2⟩
def PtV (B : Nat) (p : Tp) (bo oo no co : Nat) (ax : Option Addr) (nx cx : Nat) (v : Value) (W : World) : Prop := ∃ bw bm, v = .func (.func 141) #[] #[.pointer (some ⟨bw, 0, none⟩), .pointer (some ⟨bm, 0, none⟩)] ∧ W.heap[bw]? = some (.cells #[.slice ax nx cx] 25 (0, 0)) ∧ W.heap[bm]? = some (.cells #[.int .i64 p.wide, .int .i64 p.tlo, .int .i64 p.thi, .int .i64 p.webs, .slice (some ⟨bo, oo, none⟩) no co] 110 (0, 0)) ∧ B ≤ bw ∧ B ≤ bm
theorem PtV.below {B : Nat} {p : Tp} {bo oo no co : Nat} {ax : Option Addr} {nx cx : Nat} {v : Value} {W W' : World} (h : PtV B p bo oo no co ax nx cx v W) (hb : Below W.heap.size W W') : PtV B p bo oo no co ax nx cx v W' := by
  obtain ⟨bw, bm, e, h1, h2, h3⟩ := h; exact ⟨bw, bm, e, bwb h1 hb, bwb h2 hb, h3⟩
theorem patterns_fn (p : Tp) (bo oo no co : Nat) (ax : Option Addr) (nx cx : Nat) (w : World) :
  Calls Try.prog 111 #[.agg #[.int .i64 p.wide, .int .i64 p.tlo, .int .i64 p.thi, .int .i64 p.webs, .slice (some ⟨bo, oo, none⟩) no co], .slice ax nx cx] w (fun e w' => ∃ v, e = .returned v ∧ PtV w.heap.size p bo oo no co ax nx cx v w' ∧ Below w.heap.size w w') := by
 refine calls_fr Try.func111 Try.ntmps111 rfl rfl fun g hg => ?_
 have k0 : g 0 = .agg #[.int .i64 p.wide, .int .i64 p.tlo, .int .i64 p.thi, .int .i64 p.webs, .slice (some ⟨bo, oo, none⟩) no co] := hg 0
 have k1 : g 1 = .slice ax nx cx := hg 1
 clear hg
 have fB0 : Below w.heap.size w w := Below.refl _ _
 refine rw_ 3 [(2, 0), (3, 1), (4, 2)] [[], [], []] (rel [bx 0 #[.int .i64 p.wide, .int .i64 p.tlo, .int .i64 p.thi, .int .i64 p.webs, .slice (some ⟨bo, oo, none⟩) no co] 110, bx 1 #[.slice ax nx cx] 25, is (.nilFunc)])
  ⟨fun f s W c d h i j a => opb rfl rfl (by simp [go_sem, a.e 0 k0]),
  fun f s W c d h i j a => opb rfl rfl (by simp [go_sem, a.e 1 k1]),
  fun f s W c d h i j a => opv rfl rfl (by simp [go_sem]) rfl, trivial⟩ ?_
 intro f1 s1 W1 hB1 g1 hg1 z1
 obtain ⟨r1_0, br1_0⟩ := hB1.is 0
 have lr1_0 := hB1.lr 0 br1_0
 obtain ⟨r1_1, br1_1⟩ := hB1.is 1
 have lr1_1 := hB1.lr 1 br1_1
 have ne1_0_1 := hB1.nb 0 1
 have k1_2 := kt hg1 2 r1_0
 have k1_3 := kt hg1 3 r1_1
 refine rw_ 2 [(5, 0), (4, 1)] [[], [0]] (rel [is (.func (.func 141) #[] #[.pointer (some ⟨(s1 1), 0, none⟩), .pointer (some ⟨(s1 0), 0, none⟩)]), is (.func (.func 141) #[] #[.pointer (some ⟨(s1 1), 0, none⟩), .pointer (some ⟨(s1 0), 0, none⟩)])])
  ⟨fun f s W c d h i j a => opv rfl rfl (by simp [go_sem, a.e 3 k1_3, a.e 2 k1_2]) rfl,
  fun f s W c d h i j a => opm (a.v 5 (d 0 rfl)), trivial⟩ ?_
 intro f2 s2 W2 hB2 g2 hg2 z2
 have fB2 := hB2.f (hB1.f fB0)
 have b2_0 := hB2.b br1_0
 have b2_1 := hB2.b br1_1
 have k2_4 := kt hg2 4 (hB2.is 1)
 refine wp_ret ?_
 refine leave_one (N := 6) (.inr rfl) Try.results111 rfl k2_4 ?_
 exact ⟨_, rfl, ⟨_, _, rfl, b2_1, b2_0, (by omega), (by omega)⟩, fB2⟩
open Go.RowKit
theorem clone_own (ax : Option Addr) (nx cx : Nat) (xs : List Int) (w : World) (hX : Ii w ax nx cx xs) (gn : 1 ≤ nx ∧ nx ≤ 1000) : Calls Try.prog 66 #[.slice ax nx cx] w (fun e w' => ∃ v, e = .returned v ∧ OwI w.heap.size xs nx v w' ∧ Below w.heap.size w w') := by
  have hn : nx = xs.length := hX.1
  obtain ⟨b, o, rfl, hlt, hc⟩ := hX.at (by omega)
  refine (Try.slices_Clone_int b o nx cx xs w (by omega) (by omega) hc).mono fun e w' hp => ?_
  obtain ⟨v, e1, h2, -, h4⟩ := hp
  obtain ⟨g2, cap2, rfl⟩ := Joins.ownsRow_form h2 (by omega)
  refine ⟨_, e1, ⟨g2, cap2, rfl, own_ge h2 g2 rfl, own_lt' h2, ?_⟩, h4⟩
  subst hn
  rw [List.take_length] at h2
  exact h2
end Go.Proofs.Ytcgccflcjejlhaa
