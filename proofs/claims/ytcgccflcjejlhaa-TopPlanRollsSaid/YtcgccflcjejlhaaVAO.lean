/- Part of the proof: what the claim leans on. -/
import Derived.Test.YtcgccflcjejlhaaVAN
import Derived.Test.YtcgccflcjejlhaaVAH
set_option maxHeartbeats 400000
set_option maxRecDepth 100000
set_option linter.unusedSimpArgs false
set_option linter.unusedVariables false
namespace Go.Proofs.Ytcgccflcjejlhaa
open Go.RowKit
def webL (L : List (List Int)) (i : Nat) : List Int := L.getD i []
def plC (L : List (List Int)) (ad : Nat → Option Addr) (cp : Nat → Nat) : List (Nat × Int) → List Value
  | [] => []
  | (k, r) :: t => .slice (ad k) (webL L k).length (cp k) :: .int .i64 r :: plC L ad cp t
theorem plC_snoc (L : List (List Int)) (ad : Nat → Option Addr) (cp : Nat → Nat) (k : Nat) (r : Int) : ∀ pl, plC L ad cp (pl ++ [(k, r)]) = plC L ad cp pl ++ [.slice (ad k) (webL L k).length (cp k), .int .i64 r]
  | [] => rfl
  | (k', r') :: t => by simp only [List.cons_append, plC, plC_snoc L ad cp k r t]
def RowA (W : World) (bs : Nat) (a : Option Addr) (n : Nat) (cs : List Value) : Prop := cs.length = n * 2 ∧ ((n = 0 ∧ a = none) ∨ ∃ b o, a = some ⟨b, o, none⟩ ∧ b ≠ bs ∧ b < W.heap.size ∧ ∀ j u, cs[j]? = some u → W.cell? ⟨b, o + j, none⟩ = some u)
theorem RowA.below {W W' : World} {bs n : Nat} {a : Option Addr} {cs : List Value} (h : RowA W bs a n cs) (hb : Below W.heap.size W W') : RowA W' bs a n cs := by
  obtain ⟨h0, h⟩ := h
  refine ⟨h0, h.imp id ?_⟩
  rintro ⟨b, o, e, hne, hlt, hc⟩
  exact ⟨b, o, e, hne, Nat.lt_of_lt_of_le hlt hb.size, fun j u hj => (hb.cell (p := ⟨b, o + j, none⟩) hlt).trans (hc j u hj)⟩
theorem RowA.keepX {W W' : World} {bs n : Nat} {a : Option Addr} {cs : List Value} (h : RowA W bs a n cs) (hk : KeepX bs W W') : RowA W' bs a n cs := by
  obtain ⟨h0, h⟩ := h
  refine ⟨h0, h.imp id ?_⟩
  rintro ⟨b, o, e, hne, hlt, hc⟩
  refine ⟨b, o, e, hne, Nat.lt_of_lt_of_le hlt hk.size, fun j u hj => ?_⟩
  have hb : W.heap[b]? = some W.heap[b] := Array.getElem?_eq_getElem hlt
  rw [← hc j u hj]
  exact World.cell?_of_block ((hk.block _ _ hne hb).trans hb.symm)
theorem RowA.ad {W : World} {bs n : Nat} {a : Option Addr} {cs : List Value} (h : RowA W bs a n cs) : AdOk a n := h.2.imp id fun ⟨b, o, e, _⟩ => ⟨b, o, e⟩
theorem Ii.keepX {W W' : World} {bs n c : Nat} {a : Option Addr} {xs : List Int} (h : Ii W a n c xs) (hk : KeepX bs W W') (hn : ∀ b o, a = some ⟨b, o, none⟩ → b ≠ bs) : Ii W' a n c xs := by
  obtain ⟨h0, h1, h2, h3, h4⟩ := h
  refine ⟨h0, h1, h2, h3, h4.imp id ?_⟩
  rintro ⟨b, o, e, hlt, hc⟩
  refine ⟨b, o, e, Nat.lt_of_lt_of_le hlt hk.size, fun i hi => ?_⟩
  have hb : W.heap[b]? = some W.heap[b] := Array.getElem?_eq_getElem hlt
  rw [← hc i hi]
  exact World.cell?_of_block ((hk.block _ _ (hn b o e) hb).trans hb.symm)
theorem infoS : (Try.prog.info? 74).map (fun i => (i.zero, i.size, i.bytes)) = some (some (.agg #[.slice none 0 0, .int .i64 0]), 2, 32) := by kernel_rfl
def PlN (B bs n : Nat) (cs : List Value) (v : Value) (W : World) : Prop := ∃ g c, v = .slice (some ⟨g, 0, none⟩) n c ∧ n ≤ c ∧ RowA W bs (some ⟨g, 0, none⟩) n cs ∧ B ≤ g ∧ g < W.heap.size
theorem PlN.below {B bs n : Nat} {cs : List Value} {v : Value} {W W' : World} (h : PlN B bs n cs v W) (hb : Below W.heap.size W W') : PlN B bs n cs v W' := by
  obtain ⟨g, c, e, h1, h2, h3, h4⟩ := h; exact ⟨g, c, e, h1, h2.below hb, h3, Nat.lt_of_lt_of_le h4 hb.size⟩
theorem OwnR.rowA {T : TypeId} {B bs n g c : Nat} {cs : List Value} {W : World} (h : OwnR T 2 B n cs g c W) (hl : cs.length = n * 2) (hne : g ≠ bs) : RowA W bs (some ⟨g, 0, none⟩) n cs ∧ n ≤ c := by
  refine ⟨⟨hl, .inr ⟨g, 0, rfl, hne, h.2.1, fun j u hj => by rw [Nat.zero_add]; exact h.cell j hj⟩⟩, ?_⟩
  rcases h.2.2.2 with ⟨e, -⟩ | ⟨g', cap, cur, e, -, -, h9, -⟩
  · cases e
  · cases e; exact h9
theorem appClipS (ty : TypeId) {W : World} {a : Option Addr} {n b bs : Nat} {cs : List Value} {u v : Value} (B : Nat) (h : RowA W bs a n cs) (hb : W.heap[b]? = some (.cells #[u, v] 74 (0, 0))) (h1 : u.oneCell' = true) (h2 : v.oneCell' = true) (hn : n ≤ 1000) (hB : B ≤ W.heap.size) (hbs : bs < B) :
    ∃ v' W', (Builtin.append_ #[66, 66] ty #[.slice a n n, .slice (some ⟨b, 0, none⟩) 1 1]).run Try.prog W = .ok v' W' ∧ Below W.heap.size W W' ∧ PlN B bs (n + 1) (cs ++ [u, v]) v' W' := by
  obtain ⟨g', c2, W', hr, ho, hb'⟩ := appClip 66 ty 74 2 32 (.agg #[.slice none 0 0, .int .i64 0]) (by kernel_rfl) infoS rfl (W := W) (a := a) (n := n) (olds := cs) h.1 (h.2.imp id fun ⟨b, o, e, _, _, hc⟩ => ⟨b, o, e, hc⟩) (b := b) (off := 0) (k := 1) (c' := 1) [u, v] rfl (by simp [h1, h2]) (cells_at hb) (by omega)
  have hg : W.heap.size ≤ g' := ho.1
  obtain ⟨r1, r2⟩ := ho.rowA (bs := bs) (by simp [h.1]; omega) (by omega)
  exact ⟨_, W', hr, hb', g', c2, rfl, r2, r1, by omega, ho.2.1⟩
theorem cloneS_run (ty : TypeId) {W : World} {a : Option Addr} {n c bs g : Nat} {cs : List Value} (B : Nat) (h : RowA W bs a n cs) (h0 : 0 < n) (hn : n ≤ 1000) (hB : B ≤ W.heap.size) (hbs : bs < B) :
    ∃ v' W', (Builtin.append_ #[66, 66] ty #[.slice (some ⟨g, 0, none⟩) 0 0, .slice a n c]).run Try.prog W = .ok v' W' ∧ Below W.heap.size W W' ∧ PlN B bs n cs v' W' := by
  rcases h.2 with ⟨e, -⟩ | ⟨b, o, rfl, hne, hlt, hc⟩
  · omega
  · obtain ⟨v, W', hr, hb', g', c', rfl, ho⟩ := cloneR_run 66 ty 74 2 32 (.agg #[.slice none 0 0, .int .i64 0]) (by kernel_rfl) infoS rfl W g b o n c cs h.1 h0 hc (by omega)
    have hg : W.heap.size ≤ g' := ho.1
    obtain ⟨r1, r2⟩ := ho.rowA (bs := bs) h.1 (by omega)
    exact ⟨_, W', hr, hb', g', c', rfl, r2, r1, by omega, ho.2.1⟩
structure Se where
  best : List (Nat × Int)
  waste : Int
  found : Bool
def forI (f : Nat → Se → Se) (i : Nat) : Nat → Se → Se
  | 0, s => s
  | c + 1, s => f (i + c) (forI f i c s)
def forR (f : Int → Se → Se) (l : Int) : Nat → Se → Se
  | 0, s => s
  | c + 1, s => f (l + (c : Int)) (forR f l c s)
def runN (lh : Int × Int) (last : Bool) : Nat := if last then min 1 (lh.2 - lh.1 + 1).toNat else (lh.2 - lh.1 + 1).toNat
def tryF (p : Tp) (os : Nat → To) (no : Nat) (L : List (List Int)) : Nat → List (Nat × Int) → Nat → Int → List Int → Se → Se
  | 0, pl, _, wa, gs, s => if decide (wrF os gs no 0 < 0) && (!s.found || decide (wa < s.waste)) then ⟨pl, wa, true⟩ else s
  | m + 1, pl, fr, wa, gs, s => if s.found && decide (s.waste ≤ wa) then s else
      forI (fun i s => forR (fun r s => tryF p os no L m (pl ++ [(i, r)]) (i + 1) (wa + leftF p os (webL L i) no * r) (addK gs (webL L i) r no) s) (roomF os gs (webL L i) (m == 0) no).1 (runN (roomF os gs (webL L i) (m == 0) no) (m == 0)) s) fr (L.length - fr) s
structure LOk (p : Tp) (os : Nat → To) (no : Nat) (L : List (List Int)) : Prop where
  len : L.length ≤ 1000
  n : ∀ i, i < L.length → (webL L i).length = no
  x : ∀ i, i < L.length → ∀ x ∈ webL L i, 0 ≤ x ∧ x ≤ 4
  t : ∀ i, i < L.length → 0 ≤ leftF p os (webL L i) no ∧ leftF p os (webL L i) no ≤ 3000
structure TryOk (no : Nat) (L : List (List Int)) (m : Nat) (pl : List (Nat × Int)) (fr : Nat) (wa : Int) (gs : List Int) : Prop where
  u : m + pl.length ≤ 3
  g : ∀ i, 0 ≤ elT gs i ∧ elT gs i ≤ 120 * (pl.length : Int)
  w : 0 ≤ wa ∧ wa ≤ 90000 * (pl.length : Int)
  fr : fr ≤ L.length
  l : gs.length = no
theorem TryOk.next {p : Tp} {os : Nat → To} {no : Nat} {L : List (List Int)} {m fr i : Nat} {pl : List (Nat × Int)} {wa r : Int} {gs : List Int} (h : TryOk no L (m + 1) pl fr wa gs) (hL : LOk p os no L) (hi : i < L.length) (hr : 0 ≤ r ∧ r ≤ 30) :
    TryOk no L m (pl ++ [(i, r)]) (i + 1) (wa + leftF p os (webL L i) no * r) (addK gs (webL L i) r no) := by
  have hl : (pl ++ [(i, r)]).length = pl.length + 1 := by simp
  refine ⟨by rw [hl]; have := h.u; omega, fun j => ?_, ?_, hi, by rw [addK_len]; exact h.l⟩
  · rw [addK_at gs _ r no j (by rw [h.l]; exact Nat.le_refl _), hl]
    have h1 := h.g j
    have h2 := getD_bd (hL.x i hi) (by decide) j
    have h3 := tr_mul h2 hr
    split <;> omega
  · rw [hl]
    have h1 := h.w; have h2 := tr_mul (hL.t i hi) hr
    omega
theorem clipS_any (a : Option Addr) (n c : Nat) (w : World) (ha : AdOk a n) (hnc : n ≤ c) :
  Calls Try.prog 114 #[.slice a n c] w (fun e w' => e = .returned (.slice a n n) ∧ Below w.heap.size w w') := by
 refine calls_fr Try.func114 Try.ntmps114 rfl rfl fun g hg => ?_
 have k0 : g 0 = .slice a n c := hg 0
 clear hg
 have fB0 : Below w.heap.size w w := Below.refl _ _
 refine rw_ 1 [(2, 0)] [[]] (rel [is (.slice none 0 0)])
  ⟨fun f s W d h i j l b => opv rfl rfl (by simp [go_sem]) rfl, trivial⟩ ?_
 intro f1 s1 W1 hB1 g1 hg1 z1
 have k1_0 := kt hg1 0 k0
 refine rw_ 7 [(3, 0), (4, 1), (5, 2), (6, 3), (7, 4), (8, 5), (2, 6)] [[], [], [1], [], [3], [0, 2, 4], [5]] (rel [is (.slice a n c), is (.slice a n c), iI ((n : Int)), is (.slice a n c), iI ((n : Int)), is (.slice a n n), is (.slice a n n)])
  ⟨fun f s W d h i j l b => opm (b.v 0 k1_0),
  fun f s W d h i j l b => opm (b.v 0 k1_0),
  fun f s W d h i j l b => opv rfl rfl (by simp [go_sem, b.e 4 (h 1 rfl)]) rfl,
  fun f s W d h i j l b => opm (b.v 0 k1_0),
  fun f s W d h i j l b => opv rfl rfl (by simp [go_sem, b.e 6 (h 3 rfl)]) rfl,
  fun f s W d h i j l b => by have h0_ : ∀ k : Nat, (if n = 0 then a else Option.map (fun x : Addr => x.add (0 * k)) a) = a := fun k => AdOk.clip ha; exact opv rfl rfl (by simp [go_sem, b.e 3 (h 0 rfl), b.e 5 (h 2 rfl), b.e 7 (h 4 rfl), h0_, hnc]) rfl,
  fun f s W d h i j l b => opm (b.v 8 (h 5 rfl)), trivial⟩ ?_
 intro f2 s2 W2 hB2 g2 hg2 z2
 have fB2 := hB2.f (hB1.f fB0)
 have k2_2 := kt hg2 2 (hB2.is 6)
 refine wp_ret ?_
 refine leave_one (N := 9) (.inr rfl) Try.results114 rfl k2_2 ?_
 exact ⟨rfl, fB2⟩
def PlC (bs n : Nat) (cs : List Value) (v : Value) (W : World) : Prop := ∃ a c, v = .slice a n c ∧ n ≤ c ∧ RowA W bs a n cs
theorem PlC.below {bs n : Nat} {cs : List Value} {v : Value} {W W' : World} (h : PlC bs n cs v W) (hb : Below W.heap.size W W') : PlC bs n cs v W' := by
  obtain ⟨a, c, e, h1, h2⟩ := h; exact ⟨a, c, e, h1, h2.below hb⟩
theorem cloneS_nil (bs : Nat) (cs : List Value) (w : World) (hR : RowA w bs none 0 cs) :
  Calls Try.prog 112 #[.slice none 0 0] w (fun e w' => ∃ v, e = .returned v ∧ PlC bs 0 cs v w' ∧ Below w.heap.size w w') := by
 refine calls_fr Try.func112 Try.ntmps112 rfl rfl fun g hg => ?_
 have k0 : g 0 = .slice none 0 0 := hg 0
 clear hg
 have fB0 : Below w.heap.size w w := Below.refl _ _
 refine rw_ 1 [(2, 0)] [[]] (rel [is (.slice none 0 0)])
  ⟨fun f s W b c d h i a => opv rfl rfl (by simp [go_sem]) rfl, trivial⟩ ?_
 intro f1 s1 W1 hB1 g1 hg1 z1
 have k1_0 := kt hg1 0 k0
 refine wp_seq_k fun K2 hK2 => ?_
 refine rw_ 2 [(3, 0), (4, 1)] [[], [0]] (rel [is (.slice none 0 0), iB true])
  ⟨fun f s W b c d h i a => opm (a.v 0 k1_0),
  fun f s W b c d h i a => by have en_ := Lib.run_eql_slice_nil (P := Try.prog) W 66 74 (none) (0) (0) 0 0 (by kernel_rfl); exact opv rfl rfl (by simp [go_sem, a.e 3 (c 0 rfl), en_]) rfl, trivial⟩ ?_
 intro f2 s2 W2 hB2 g2 hg2 z2
 have k2_4 := kt hg2 4 (hB2.is 1)
 refine wp_cond_true ((fr_eval rfl).trans k2_4) ?_
 refine rw_ 1 [(2, 0)] [[]] (rel [is (.slice none 0 0)])
  ⟨fun f s W b c d h i a => opv rfl rfl (by simp [go_sem]) rfl, trivial⟩ ?_
 intro f3 s3 W3 hB3 g3 hg3 z3
 have fB3 := hB3.f (hB2.f (hB1.f fB0))
 have k3_2 := kt hg3 2 (hB3.is 0)
 refine wp_ret ?_
 refine then_ret ?_
 refine leave_one (N := 8) (.inr rfl) Try.results112 rfl k3_2 ?_
 exact ⟨_, rfl, ⟨none, 0, rfl, Nat.le_refl _, hR.below fB3⟩, fB3⟩
theorem cloneS_some (bs b o n c : Nat) (cs : List Value) (w : World) (hR : RowA w bs (some ⟨b, o, none⟩) n cs) (h0 : 0 < n) (hn : n ≤ 1000) (hbs : bs < w.heap.size) :
  Calls Try.prog 112 #[.slice (some ⟨b, o, none⟩) n c] w (fun e w' => ∃ v, e = .returned v ∧ PlC bs n cs v w' ∧ Below w.heap.size w w') := by
 refine calls_fr Try.func112 Try.ntmps112 rfl rfl fun g hg => ?_
 have k0 : g 0 = .slice (some ⟨b, o, none⟩) n c := hg 0
 clear hg
 have fB0 : Below w.heap.size w w := Below.refl _ _
 refine rw_ 1 [(2, 0)] [[]] (rel [is (.slice none 0 0)])
  ⟨fun f s W d i j k l a => opv rfl rfl (by simp [go_sem]) rfl, trivial⟩ ?_
 intro f1 s1 W1 hB1 g1 hg1 z1
 have k1_0 := kt hg1 0 k0
 refine wp_seq_k fun K2 hK2 => ?_
 refine rw_ 2 [(3, 0), (4, 1)] [[], [0]] (rel [is (.slice (some ⟨b, o, none⟩) n c), iB false])
  ⟨fun f s W d i j k l a => opm (a.v 0 k1_0),
  fun f s W d i j k l a => by have en_ := Lib.run_eql_slice_nil (P := Try.prog) W 66 74 (some ⟨b, o, none⟩) (n) (c) 0 0 (by kernel_rfl); exact opv rfl rfl (by simp [go_sem, a.e 3 (i 0 rfl), en_]) rfl, trivial⟩ ?_
 intro f2 s2 W2 hB2 g2 hg2 z2
 have fB2 := hB2.f (hB1.f fB0)
 have k2_0 := kt hg2 0 k1_0
 have k2_4 := kt hg2 4 (hB2.is 1)
 refine wp_cond_false ((fr_eval rfl).trans k2_4) ?_
 refine wp_skip ?_
 refine hK2 _ _ ?_
 refine rx 4 [(5, 0), (6, 1), (7, 2), (2, 3)] [[], [], [0, 1], [2]] (rel [row 0 0 #[] 74, is (.slice (some ⟨b, o, none⟩) n c), ab fun v W => PlN (W2.heap.size) bs (n) (cs) v W, ab fun v W => PlN (W2.heap.size) bs (n) (cs) v W])
  ⟨row_k, is_k, ab_k fun v W W' hb h => (h.below hb), ab_k fun v W W' hb h => (h.below hb), trivial⟩
  ⟨fun f s W d i j k l a => opr rfl rfl (by simp [go_sem]),
  fun f s W d i j k l a => opm (a.v 0 k2_0),
  fun f s W d i j k l a => by have m := bwt fB2 d; obtain ⟨v_, W_, r_, b_, i_⟩ := cloneS_run 66 (c := c) (W2.heap.size) (hR.below m) h0 hn (by have := d.size; omega) (by omega); exact opDo_value rfl rfl (run_appendOp (a.v 5 (i 0 rfl).1) (a.v 6 (i 1 rfl)) r_) b_ i_,
  fun f s W d i j k l a => opv (v := (f 2)) rfl rfl (by simp [go_sem, (a.at' 7 rfl : l.tmps[7]?.getD undef = f 2)] <;> rfl) (i 2 rfl), trivial⟩ ?_
 intro f3 s3 W3 hB3 g3 hg3 z3
 have fB3 := hB3.f fB2
 obtain ⟨r3_0, br3_0⟩ := hB3.is 0
 have lr3_0 := hB3.lr 0 br3_0
 obtain ⟨g7', c8', r3_3, q10', q9', q11', q12'⟩ := hB3.is 3
 have k3_2 := kt hg3 2 r3_3
 refine wp_ret ?_
 refine leave_one (N := 8) (.inr rfl) Try.results112 rfl k3_2 ?_
 exact ⟨_, rfl, ⟨_, _, rfl, q10', q9'⟩, fB3⟩
theorem cloneS_any (bs n c : Nat) (a : Option Addr) (cs : List Value) (w : World) (hR : RowA w bs a n cs) (hn : n ≤ 1000) (hc0 : n = 0 → c = 0) (hbs : bs < w.heap.size) (h0 : n = 0 → a = none) : Calls Try.prog 112 #[.slice a n c] w (fun e w' => ∃ v, e = .returned v ∧ PlC bs n cs v w' ∧ Below w.heap.size w w') := by
  by_cases h : n = 0
  · subst h; rw [h0 rfl, hc0 rfl]; rw [h0 rfl] at hR; exact cloneS_nil bs cs w hR
  · rcases hR.2 with ⟨h', -⟩ | ⟨b, o, rfl, -⟩
    · exact absurd h' h
    · exact cloneS_some bs b o n c cs w hR (by omega) hn hbs
end Go.Proofs.Ytcgccflcjejlhaa
