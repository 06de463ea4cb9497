/- Part of the proof: what the claim leans on. -/
import Derived.Test.YtnhipdbdolabkaaWAO
import Derived.Test.YtnhipdbdolabkaaWAA
import Derived.Test.YtnhipdbdolabkaaWAN
import Derived.Test.YtnhipdbdolabkaaWAI
set_option linter.unusedSimpArgs false
set_option linter.unusedVariables false
namespace Go.Proofs.Ytnhipdbdolabkaa
open Go.RowKit
/-- The webs of pattern number i. -/
def webL (L : List (List Int)) (i : Nat) : List Int := L.getD i []
/-- The cells of a plan: for each set-up the number of its pattern and its run. -/
def plC (L : List (List Int)) (ad : Nat → Option Addr) (cp : Nat → Nat) : List (Nat × Int) → List Value
  | [] => []
  | (k, r) :: t => .slice (ad k) (webL L k).length (cp k) :: .int .i64 r :: plC L ad cp t
theorem plC_snoc (L : List (List Int)) (ad : Nat → Option Addr) (cp : Nat → Nat) (k : Nat) (r : Int) : ∀ pl, plC L ad cp (pl ++ [(k, r)]) = plC L ad cp pl ++ [.slice (ad k) (webL L k).length (cp k), .int .i64 r]
  | [] => rfl
  | (k', r') :: t => by simp only [List.cons_append, plC, plC_snoc L ad cp k r t]
/-- A row of n set-ups with these cells, not in block bs. -/
def RowA (W : World) (bs : Nat) (a : Option Addr) (n : Nat) (cs : List Value) : Prop := cs.length = n * 2 ∧ ((n = 0 ∧ a = none) ∨ ∃ b o, a = some ⟨b, o, none⟩ ∧ b ≠ bs ∧ b < W.heap.size ∧ ∀ j u, cs[j]? = some u → W.cell? ⟨b, o + j, none⟩ = some u)
theorem RowA.below {W W' : World} {bs n : Nat} {a : Option Addr} {cs : List Value} (h : RowA W bs a n cs) (hb : Below W.heap.size W W') : RowA W' bs a n cs := by
  obtain ⟨h0, h⟩ := h
  refine ⟨h0, h.imp id ?_⟩
  rintro ⟨b, o, e, hne, hlt, hc⟩
  exact ⟨b, o, e, hne, Nat.lt_of_lt_of_le hlt hb.size, fun j u hj => (hb.cell (p := ⟨b, o + j, none⟩) hlt).trans (hc j u hj)⟩
theorem RowA.keepX {W W' : World} {bs n : Nat} {a : Option Addr} {cs : List Value} (h : RowA W bs a n cs) (hk : KeepX bs W W') : RowA W' bs a n cs := by
  obtain ⟨h0, h⟩ := h
  refine ⟨h0, h.imp id ?_⟩
  rintro ⟨b, o, e, hne, hlt, hc⟩
  refine ⟨b, o, e, hne, Nat.lt_of_lt_of_le hlt hk.size, fun j u hj => ?_⟩
  have hb : W.heap[b]? = some W.heap[b] := Array.getElem?_eq_getElem hlt
  rw [← hc j u hj]
  exact World.cell?_of_block ((hk.block _ _ hne hb).trans hb.symm)
theorem RowA.ad {W : World} {bs n : Nat} {a : Option Addr} {cs : List Value} (h : RowA W bs a n cs) : AdOk a n := h.2.imp id fun ⟨b, o, e, _⟩ => ⟨b, o, e⟩
theorem Ii.keepX {W W' : World} {bs n c : Nat} {a : Option Addr} {xs : List Int} (h : Ii W a n c xs) (hk : KeepX bs W W') (hn : ∀ b o, a = some ⟨b, o, none⟩ → b ≠ bs) : Ii W' a n c xs := by
  obtain ⟨h0, h1, h2, h3, h4⟩ := h
  refine ⟨h0, h1, h2, h3, h4.imp id ?_⟩
  rintro ⟨b, o, e, hlt, hc⟩
  refine ⟨b, o, e, Nat.lt_of_lt_of_le hlt hk.size, fun i hi => ?_⟩
  have hb : W.heap[b]? = some W.heap[b] := Array.getElem?_eq_getElem hlt
  rw [← hc i hi]
  exact World.cell?_of_block ((hk.block _ _ (hn b o e) hb).trans hb.symm)
theorem infoS : (Try.prog.info? 70).map (fun i => (i.zero, i.size, i.bytes)) = some (some (.agg #[.slice none 0 0, .int .i64 0]), 2, 32) := by kernel_rfl
/-- A plan with one set-up more, in a row of its own. -/
def PlN (B bs n : Nat) (cs : List Value) (v : Value) (W : World) : Prop := ∃ g c, v = .slice (some ⟨g, 0, none⟩) n c ∧ n ≤ c ∧ RowA W bs (some ⟨g, 0, none⟩) n cs ∧ B ≤ g ∧ g < W.heap.size
theorem PlN.below {B bs n : Nat} {cs : List Value} {v : Value} {W W' : World} (h : PlN B bs n cs v W) (hb : Below W.heap.size W W') : PlN B bs n cs v W' := by
  obtain ⟨g, c, e, h1, h2, h3, h4⟩ := h; exact ⟨g, c, e, h1, h2.below hb, h3, Nat.lt_of_lt_of_le h4 hb.size⟩
theorem OwnR.rowA {T : TypeId} {B bs n g c : Nat} {cs : List Value} {W : World} (h : OwnR T 2 B n cs g c W) (hl : cs.length = n * 2) (hne : g ≠ bs) : RowA W bs (some ⟨g, 0, none⟩) n cs ∧ n ≤ c := by
  refine ⟨⟨hl, .inr ⟨g, 0, rfl, hne, h.2.1, fun j u hj => by rw [Nat.zero_add]; exact h.cell j hj⟩⟩, ?_⟩
  rcases h.2.2.2 with ⟨e, -⟩ | ⟨g', cap, cur, e, -, -, h9, -⟩
  · cases e
  · cases e; exact h9
theorem appClipS (ty : TypeId) {W : World} {a : Option Addr} {n b bs : Nat} {cs : List Value} {u v : Value} (B : Nat) (h : RowA W bs a n cs) (hb : W.heap[b]? = some (.cells #[u, v] 70 (0, 0))) (h1 : u.oneCell' = true) (h2 : v.oneCell' = true) (hn : n ≤ 1000) (hB : B ≤ W.heap.size) (hbs : bs < B) :
    ∃ v' W', (Builtin.append_ #[37, 37] ty #[.slice a n n, .slice (some ⟨b, 0, none⟩) 1 1]).run Try.prog W = .ok v' W' ∧ Below W.heap.size W W' ∧ PlN B bs (n + 1) (cs ++ [u, v]) v' W' := by
  obtain ⟨g', c2, W', hr, ho, hb'⟩ := appClip 37 ty 70 2 32 (.agg #[.slice none 0 0, .int .i64 0]) (by kernel_rfl) infoS rfl (W := W) (a := a) (n := n) (olds := cs) h.1 (h.2.imp id fun ⟨b, o, e, _, _, hc⟩ => ⟨b, o, e, hc⟩) (b := b) (off := 0) (k := 1) (c' := 1) [u, v] rfl (by simp [h1, h2]) (cells_at hb) (by omega)
  have hg : W.heap.size ≤ g' := ho.1
  obtain ⟨r1, r2⟩ := ho.rowA (bs := bs) (by simp [h.1]; omega) (by omega)
  exact ⟨_, W', hr, hb', g', c2, rfl, r2, r1, by omega, ho.2.1⟩
theorem cloneS_run (ty : TypeId) {W : World} {a : Option Addr} {n c bs g : Nat} {cs : List Value} (B : Nat) (h : RowA W bs a n cs) (h0 : 0 < n) (hn : n ≤ 1000) (hB : B ≤ W.heap.size) (hbs : bs < B) :
    ∃ v' W', (Builtin.append_ #[37, 37] ty #[.slice (some ⟨g, 0, none⟩) 0 0, .slice a n c]).run Try.prog W = .ok v' W' ∧ Below W.heap.size W W' ∧ PlN B bs n cs v' W' := by
  rcases h.2 with ⟨e, -⟩ | ⟨b, o, rfl, hne, hlt, hc⟩
  · omega
  · obtain ⟨v, W', hr, hb', g', c', rfl, ho⟩ := cloneR_run 37 ty 70 2 32 (.agg #[.slice none 0 0, .int .i64 0]) (by kernel_rfl) infoS rfl W g b o n c cs h.1 h0 hc (by omega)
    have hg : W.heap.size ≤ g' := ho.1
    obtain ⟨r1, r2⟩ := ho.rowA (bs := bs) h.1 (by omega)
    exact ⟨_, W', hr, hb', g', c', rfl, r2, r1, by omega, ho.2.1⟩
/-- A best plan so far, with its waste, if there is one. -/
structure Se where
  best : List (Nat × Int)
  waste : Int
  found : Bool
def forI (f : Nat → Se → Se) (i : Nat) : Nat → Se → Se
  | 0, s => s
  | c + 1, s => f (i + c) (forI f i c s)
def forR (f : Int → Se → Se) (l : Int) : Nat → Se → Se
  | 0, s => s
  | c + 1, s => f (l + (c : Int)) (forR f l c s)
/-- How many runs of a pattern are tried: of the last set-up the first one alone. -/
def runN (lh : Int × Int) (last : Bool) : Nat := if last then min 1 (lh.2 - lh.1 + 1).toNat else (lh.2 - lh.1 + 1).toNat
def tryF (p : Tp) (os : Nat → To) (no : Nat) (L : List (List Int)) : Nat → List (Nat × Int) → Nat → Int → List Int → Se → Se
  | 0, pl, _, wa, gs, s => if decide (wrF os gs no 0 < 0) && (!s.found || decide (wa < s.waste)) then ⟨pl, wa, true⟩ else s
  | m + 1, pl, fr, wa, gs, s => if s.found && decide (s.waste ≤ wa) then s else
      forI (fun i s => forR (fun r s => tryF p os no L m (pl ++ [(i, r)]) (i + 1) (wa + leftF p os (webL L i) no * r) (addK gs (webL L i) r no) s) (roomF os gs (webL L i) (m == 0) no).1 (runN (roomF os gs (webL L i) (m == 0) no) (m == 0)) s) fr (L.length - fr) s
/-- Patterns that can be gone through. -/
structure LOk (p : Tp) (os : Nat → To) (no : Nat) (L : List (List Int)) : Prop where
  len : L.length ≤ 1000
  n : ∀ i, i < L.length → (webL L i).length = no
  x : ∀ i, i < L.length → ∀ x ∈ webL L i, 0 ≤ x ∧ x ≤ 4
  t : ∀ i, i < L.length → 0 ≤ leftF p os (webL L i) no ∧ leftF p os (webL L i) no ≤ 3000
/-- What holds of the arguments of a try. -/
structure TryOk (no : Nat) (L : List (List Int)) (m : Nat) (pl : List (Nat × Int)) (fr : Nat) (wa : Int) (gs : List Int) : Prop where
  u : m + pl.length ≤ 3
  g : ∀ i, 0 ≤ elT gs i ∧ elT gs i ≤ 120 * (pl.length : Int)
  w : 0 ≤ wa ∧ wa ≤ 90000 * (pl.length : Int)
  fr : fr ≤ L.length
  l : gs.length = no
theorem TryOk.next {p : Tp} {os : Nat → To} {no : Nat} {L : List (List Int)} {m fr i : Nat} {pl : List (Nat × Int)} {wa r : Int} {gs : List Int} (h : TryOk no L (m + 1) pl fr wa gs) (hL : LOk p os no L) (hi : i < L.length) (hr : 0 ≤ r ∧ r ≤ 30) :
    TryOk no L m (pl ++ [(i, r)]) (i + 1) (wa + leftF p os (webL L i) no * r) (addK gs (webL L i) r no) := by
  have hl : (pl ++ [(i, r)]).length = pl.length + 1 := by simp
  refine ⟨by rw [hl]; have := h.u; omega, fun j => ?_, ?_, hi, by rw [addK_len]; exact h.l⟩
  · rw [addK_at gs _ r no j (by rw [h.l]; exact Nat.le_refl _), hl]
    have h1 := h.g j
    have h2 := getD_bd (hL.x i hi) (by decide) j
    have h3 := tr_mul h2 hr
    split <;> omega
  · rw [hl]
    have h1 := h.w; have h2 := tr_mul (hL.t i hi) hr
    omega
set_option maxRecDepth 100000 in
set_option maxHeartbeats 400000 in
theorem clipS_any (a : Option Addr) (n c : Nat) (w : World) (ha : AdOk a n) (hnc : n ≤ c) :
  Calls Try.prog 80 #[.slice (a) (n) (c)] w (fun e w' => e = .returned (.slice a n n) ∧ Below w.heap.size w w') := by
 refine calls_fr Try.func80 Try.ntmps80 rfl rfl fun g hg => ?_
 have k0 : g 0 = .slice (a) (n) (c) := hg 0
 clear hg
 have fB0 : Below w.heap.size w w := Below.refl _ _
 refine wp_seq_k fun K1 hK1 => ?_
 refine region_dk 1 [(2, 0)] [[]] (rel [is (.slice (none) (0) (0))])
  ⟨is_k, trivial⟩
  ⟨fun f s W d h i j l b => opv rfl rfl (by simp [go_sem]) rfl, trivial⟩ ?_
 intro f1 s1 W1 hB1 g1 hg1
 have fB1 := hB1.f fB0
 have z1 := hB1.below.size
 refine hK1 _ _ ?_
 have k1_0 := kt hg1 0 k0
 have k1_2 := kt hg1 2 (hB1.is 0)
 refine wp_seq_k fun K2 hK2 => ?_
 refine region_dk 7 [(3, 0), (4, 1), (5, 2), (6, 3), (7, 4), (8, 5), (2, 6)] [[], [], [1], [], [3], [0, 1, 2, 3, 4], [0, 1, 2, 3, 4, 5]] (rel [is (.slice (a) (n) (c)),
   is (.slice (a) (n) (c)),
   is (.int .i64 ((n : Int))),
   is (.slice (a) (n) (c)),
   is (.int .i64 ((n : Int))),
   is (.slice (a) (n) (n)),
   is (.slice (a) (n) (n))])
  ⟨is_k, is_k, is_k, is_k, is_k, is_k, is_k, trivial⟩
  ⟨fun f s W d h i j l b => opv rfl rfl (by simp [go_sem, b.e 0 k1_0]) rfl,
  fun f s W d h i j l b => opv rfl rfl (by simp [go_sem, b.e 0 k1_0]) rfl,
  fun f s W d h i j l b => opv rfl rfl (by simp [go_sem, b.e 4 (h 1 rfl)]) rfl,
  fun f s W d h i j l b => opv rfl rfl (by simp [go_sem, b.e 0 k1_0]) rfl,
  fun f s W d h i j l b => opv rfl rfl (by simp [go_sem, b.e 6 (h 3 rfl)]) rfl,
  fun f s W d h i j l b => by have h0_ : ∀ k : Nat, (if n = 0 then a else Option.map (fun x : Addr => x.add (0 * k)) a) = a := fun k => AdOk.clip ha; exact opv rfl rfl (by simp [go_sem, b.e 3 (h 0 rfl), b.e 5 (h 2 rfl), b.e 7 (h 4 rfl), h0_, hnc]) rfl,
  fun f s W d h i j l b => opv rfl rfl (by simp [go_sem, b.e 8 (h 5 rfl)]) rfl, trivial⟩ ?_
 intro f2 s2 W2 hB2 g2 hg2
 have fB2 := hB2.f fB1
 have z2 := hB2.below.size
 refine hK2 _ _ ?_
 have k2_2 := kt hg2 2 (hB2.is 6)
 refine wp_ret ?_
 refine leave_one (N := 9) (v := .slice (a) (n) (n)) (.inr rfl) Try.results80 rfl k2_2 ?_
 exact ⟨rfl, fB2⟩
/-- A copy of a plan. -/
def PlC (bs n : Nat) (cs : List Value) (v : Value) (W : World) : Prop := ∃ a c, v = .slice a n c ∧ n ≤ c ∧ RowA W bs a n cs
theorem PlC.below {bs n : Nat} {cs : List Value} {v : Value} {W W' : World} (h : PlC bs n cs v W) (hb : Below W.heap.size W W') : PlC bs n cs v W' := by
  obtain ⟨a, c, e, h1, h2⟩ := h; exact ⟨a, c, e, h1, h2.below hb⟩
set_option maxRecDepth 100000 in
set_option maxHeartbeats 400000 in
theorem cloneS_nil (bs : Nat) (cs : List Value) (w : World) (hR : RowA w bs none 0 cs) :
  Calls Try.prog 78 #[.slice (none) (0) (0)] w (fun e w' => ∃ v, e = .returned v ∧ PlC bs 0 cs v w' ∧ Below w.heap.size w w') := by
 refine calls_fr Try.func78 Try.ntmps78 rfl rfl fun g hg => ?_
 have k0 : g 0 = .slice (none) (0) (0) := hg 0
 clear hg
 have fB0 : Below w.heap.size w w := Below.refl _ _
 refine wp_seq_k fun K1 hK1 => ?_
 refine region_dk 1 [(2, 0)] [[]] (rel [is (.slice (none) (0) (0))])
  ⟨is_k, trivial⟩
  ⟨fun f s W b c d h i a => opv rfl rfl (by simp [go_sem]) rfl, trivial⟩ ?_
 intro f1 s1 W1 hB1 g1 hg1
 have fB1 := hB1.f fB0
 have z1 := hB1.below.size
 refine hK1 _ _ ?_
 have k1_0 := kt hg1 0 k0
 have k1_2 := kt hg1 2 (hB1.is 0)
 refine wp_seq_k fun K2 hK2 => ?_
 refine wp_seq_k fun K3 hK3 => ?_
 refine region_dk 2 [(3, 0), (4, 1)] [[], [0]] (rel [is (.slice (none) (0) (0)),
   is (.bool true)])
  ⟨is_k, is_k, trivial⟩
  ⟨fun f s W b c d h i a => opv rfl rfl (by simp [go_sem, a.e 0 k1_0]) rfl,
  fun f s W b c d h i a => by have en_ := Lib.run_eql_slice_nil (P := Try.prog) W 37 70 (none) (0) (0) 0 0 (by kernel_rfl); exact opv rfl rfl (by simp [go_sem, a.e 3 (c 0 rfl), en_]) rfl, trivial⟩ ?_
 intro f2 s2 W2 hB2 g2 hg2
 have fB2 := hB2.f fB1
 have z2 := hB2.below.size
 refine hK3 _ _ ?_
 have k2_0 := kt hg2 0 k1_0
 have k2_2 := kt hg2 2 k1_2
 have k2_4 := kt hg2 4 (hB2.is 1)
 refine wp_cond_true ((fr_eval rfl).trans k2_4) ?_
 refine wp_seq_k fun K5 hK5 => ?_
 refine region_dk 1 [(2, 0)] [[]] (rel [is (.slice (none) (0) (0))])
  ⟨is_k, trivial⟩
  ⟨fun f s W b c d h i a => opv rfl rfl (by simp [go_sem]) rfl, trivial⟩ ?_
 intro f3 s3 W3 hB3 g3 hg3
 have fB3 := hB3.f fB2
 have z3 := hB3.below.size
 refine hK5 _ _ ?_
 have k3_0 := kt hg3 0 k2_0
 have k3_2 := kt hg3 2 (hB3.is 0)
 refine wp_ret ?_
 refine then_ret ?_
 refine leave_one (N := 8) (v := .slice (none) (0) (0)) (.inr rfl) Try.results78 rfl k3_2 ?_
 exact ⟨_, rfl, ⟨none, 0, rfl, Nat.le_refl _, hR.below fB3⟩, fB3⟩
set_option maxRecDepth 100000 in
set_option maxHeartbeats 400000 in
theorem cloneS_some (bs b o n c : Nat) (cs : List Value) (w : World) (hR : RowA w bs (some ⟨b, o, none⟩) n cs) (h0 : 0 < n) (hn : n ≤ 1000) (hbs : bs < w.heap.size) :
  Calls Try.prog 78 #[.slice (some ⟨b, o, none⟩) (n) (c)] w (fun e w' => ∃ v, e = .returned v ∧ PlC bs n cs v w' ∧ Below w.heap.size w w') := by
 refine calls_fr Try.func78 Try.ntmps78 rfl rfl fun g hg => ?_
 have k0 : g 0 = .slice (some ⟨b, o, none⟩) (n) (c) := hg 0
 clear hg
 have fB0 : Below w.heap.size w w := Below.refl _ _
 refine wp_seq_k fun K1 hK1 => ?_
 refine region_dk 1 [(2, 0)] [[]] (rel [is (.slice (none) (0) (0))])
  ⟨is_k, trivial⟩
  ⟨fun f s W d i j k l a => opv rfl rfl (by simp [go_sem]) rfl, trivial⟩ ?_
 intro f1 s1 W1 hB1 g1 hg1
 have fB1 := hB1.f fB0
 have z1 := hB1.below.size
 refine hK1 _ _ ?_
 have k1_0 := kt hg1 0 k0
 have k1_2 := kt hg1 2 (hB1.is 0)
 refine wp_seq_k fun K2 hK2 => ?_
 refine wp_seq_k fun K3 hK3 => ?_
 refine region_dk 2 [(3, 0), (4, 1)] [[], [0]] (rel [is (.slice (some ⟨b, o, none⟩) (n) (c)),
   is (.bool false)])
  ⟨is_k, is_k, trivial⟩
  ⟨fun f s W d i j k l a => opv rfl rfl (by simp [go_sem, a.e 0 k1_0]) rfl,
  fun f s W d i j k l a => by have en_ := Lib.run_eql_slice_nil (P := Try.prog) W 37 70 (some ⟨b, o, none⟩) (n) (c) 0 0 (by kernel_rfl); exact opv rfl rfl (by simp [go_sem, a.e 3 (i 0 rfl), en_]) rfl, trivial⟩ ?_
 intro f2 s2 W2 hB2 g2 hg2
 have fB2 := hB2.f fB1
 have z2 := hB2.below.size
 refine hK3 _ _ ?_
 have k2_0 := kt hg2 0 k1_0
 have k2_2 := kt hg2 2 k1_2
 have k2_4 := kt hg2 4 (hB2.is 1)
 refine wp_cond_false ((fr_eval rfl).trans k2_4) ?_
 refine wp_skip ?_
 refine hK2 _ _ ?_
 refine wp_seq_k fun K5 hK5 => ?_
 refine region_dk 4 [(5, 0), (6, 1), (7, 2), (2, 3)] [[], [], [0, 1], [0, 1, 2]] (rel [row 0 0 #[] 70,
   is (.slice (some ⟨b, o, none⟩) (n) (c)),
   ab fun v W => PlN (W2.heap.size) bs (n) (cs) v W,
   ab fun v W => PlN (W2.heap.size) bs (n) (cs) v W])
  ⟨row_k, is_k, ab_k fun v W W' hb h => (h.below hb), ab_k fun v W W' hb h => (h.below hb), trivial⟩
  ⟨fun f s W d i j k l a => opr rfl rfl (by simp [go_sem]),
  fun f s W d i j k l a => opv rfl rfl (by simp [go_sem, a.e 0 k2_0]) rfl,
  fun f s W d i j k l a => by have m := below_trans fB2 d; obtain ⟨v_, W_, r_, b_, i_⟩ := cloneS_run 37 (c := c) (W2.heap.size) (hR.below m) h0 hn (by have := d.size; omega) (by omega); exact opDo_value rfl rfl (run_appendOp (a.v 5 (i 0 rfl).1) (a.v 6 (i 1 rfl)) r_) b_ i_,
  fun f s W d i j k l a => opv (v := (f 2)) rfl rfl (by simp [go_sem, (a.at' 7 rfl : l.tmps[7]?.getD undef = f 2)] <;> rfl) (i 2 rfl), trivial⟩ ?_
 intro f3 s3 W3 hB3 g3 hg3
 have fB3 := hB3.f fB2
 have z3 := hB3.below.size
 obtain ⟨r3_0, br3_0⟩ := hB3.is 0
 have lr3_0 := hB3.lr 0 br3_0
 obtain ⟨g7', c8', r3_3, q10', q9', q11', q12'⟩ := hB3.is 3
 refine hK5 _ _ ?_
 have k3_2 := kt hg3 2 r3_3
 refine wp_ret ?_
 refine leave_one (N := 8) (v := .slice (some ⟨g7', 0, none⟩) (n) (c8')) (.inr rfl) Try.results78 rfl k3_2 ?_
 exact ⟨_, rfl, ⟨_, _, rfl, q10', q9'⟩, fB3⟩
theorem cloneS_any (bs n c : Nat) (a : Option Addr) (cs : List Value) (w : World) (hR : RowA w bs a n cs) (hn : n ≤ 1000) (hc0 : n = 0 → c = 0) (hbs : bs < w.heap.size) (h0 : n = 0 → a = none) : Calls Try.prog 78 #[.slice a n c] w (fun e w' => ∃ v, e = .returned v ∧ PlC bs n cs v w' ∧ Below w.heap.size w w') := by
  by_cases h : n = 0
  · subst h; rw [h0 rfl, hc0 rfl]; rw [h0 rfl] at hR; exact cloneS_nil bs cs w hR
  · rcases hR.2 with ⟨h', -⟩ | ⟨b, o, rfl, -⟩
    · exact absurd h' h
    · exact cloneS_some bs b o n c cs w hR (by omega) hn hbs
end Go.Proofs.Ytnhipdbdolabkaa
namespace Go.Proofs.Ytnhipdbdolabkaa
open Go.RowKit
/-- The first k set-ups of a plan, whose lists are one's own. -/
def SuC (B : Nat) (W : World) (xs : Nat → List Int × Int) (k : Nat) (cs : List Value) : Prop := cs.length = k * 2 ∧ ∀ j, j < k → ∃ g c, cs[j * 2]? = some (.slice (some ⟨g, 0, none⟩) (xs j).1.length c) ∧ cs[j * 2 + 1]? = some (.int .i64 (xs j).2) ∧ OwnI B (xs j).1 g c W
theorem SuC.below {B k : Nat} {xs : Nat → List Int × Int} {cs : List Value} {W W' : World} (h : SuC B W xs k cs) (hb : Below W.heap.size W W') : SuC B W' xs k cs :=
  ⟨h.1, fun j hj => by obtain ⟨g, c, e1, e2, e3⟩ := h.2 j hj; exact ⟨g, c, e1, e2, e3.below hb⟩⟩
theorem OwnI.otherN {B B' n c g c' : Nat} {xs : List Int} {cs : List Value} {a : Option Addr} {T : TypeId} {z : Nat} {W W' : World} (h : OwnI B xs g c W) (h' : OwnN T z B' n cs a c' W) (hot : ∀ k y, (∀ g, a = some ⟨g, 0, none⟩ → g ≠ k) → W.heap[k]? = some y → W'.heap[k]? = some y) (hz : W.heap.size ≤ W'.heap.size) (hT : (3 != T) = true := by decide) : OwnI B xs g c W' := by
  have := OwnN.otherN (.inr ⟨g, rfl, h⟩) h' hot hz hT
  rcases this with ⟨e, -⟩ | ⟨g', e, h2⟩
  · cases e
  · cases e; exact h2
theorem SuC.snoc {B k n c' g c : Nat} {xs : Nat → List Int × Int} {cs cs0 : List Value} {a : Option Addr} {T : TypeId} {z B' : Nat} {W W' : World} (h : SuC B W xs k cs) (h' : OwnN T z B' n cs0 a c' W) (hot : ∀ k y, (∀ g, a = some ⟨g, 0, none⟩ → g ≠ k) → W.heap[k]? = some y → W'.heap[k]? = some y) (hz : W.heap.size ≤ W'.heap.size)
    (hg : OwnI B (xs k).1 g c W) (hT : (3 != T) = true := by decide) : SuC B W' xs (k + 1) (cs ++ [.slice (some ⟨g, 0, none⟩) (xs k).1.length c, .int .i64 (xs k).2]) := by
  refine ⟨by simp [h.1]; omega, fun j hj => ?_⟩
  have hl := h.1
  rcases Nat.lt_or_ge j k with hj' | hj'
  · obtain ⟨g, c, e1, e2, e3⟩ := h.2 j hj'
    exact ⟨g, c, by rw [List.getElem?_append_left (by omega)]; exact e1, by rw [List.getElem?_append_left (by omega)]; exact e2, e3.otherN h' hot hz hT⟩
  · obtain rfl : j = k := by omega
    exact ⟨g, c, by rw [List.getElem?_append_right (by omega), hl, Nat.sub_self]; rfl, by rw [List.getElem?_append_right (by omega), hl, Nat.add_sub_cancel_left]; rfl, hg.otherN h' hot hz hT⟩
theorem SuC.other {B k b : Nat} {xs : Nat → List Int × Int} {cs : List Value} {cs0 : Array Value} {T' : TypeId} {W W' : World} (h : SuC B W xs k cs) (hot : ∀ k x, k ≠ b → W.heap[k]? = some x → W'.heap[k]? = some x) (hb : W.heap[b]? = some (.cells cs0 T' (0, 0))) (hz : W.heap.size ≤ W'.heap.size) (hT : (T' != 3) = true := by decide) : SuC B W' xs k cs :=
  ⟨h.1, fun j hj => by
    obtain ⟨g, c, e1, e2, e3⟩ := h.2 j hj
    exact ⟨g, c, e1, e2, e3.other hot (ownN_ne (.inr ⟨g, rfl, e3⟩) hb hT g rfl) hz⟩⟩
/-- A plan: n set-ups, each with its webs and its run. -/
def SuR (W : World) (b o n : Nat) (xs : Nat → List Int × Int) (ad : Nat → Option Addr) (cp : Nat → Nat) : Prop := (0 < n → b < W.heap.size) ∧ ∀ j, j < n → W.cell? ⟨b, o + j * 2, none⟩ = some (.slice (ad j) (xs j).1.length (cp j)) ∧ W.cell? ⟨b, o + j * 2 + 1, none⟩ = some (.int .i64 (xs j).2) ∧ Ii W (ad j) (xs j).1.length (cp j) (xs j).1
theorem SuR.below {W W' : World} {b o n : Nat} {xs : Nat → List Int × Int} {ad : Nat → Option Addr} {cp : Nat → Nat} (h : SuR W b o n xs ad cp) (hb : Below W.heap.size W W') : SuR W' b o n xs ad cp :=
  ⟨fun h0 => Nat.lt_of_lt_of_le (h.1 h0) hb.size, fun j hj => ⟨(hb.cell (p := ⟨b, o + j * 2, none⟩) (h.1 (by omega))).trans (h.2 j hj).1, (hb.cell (p := ⟨b, o + j * 2 + 1, none⟩) (h.1 (by omega))).trans (h.2 j hj).2.1, (h.2 j hj).2.2.below hb (Nat.le_refl _)⟩⟩
def IsPlan (n : Nat) (xs : Nat → List Int × Int) (v : Value) (W : World) : Prop := ∃ a c b o ad cp, v = .slice a n c ∧ n ≤ c ∧ (0 < n → a = some ⟨b, o, none⟩) ∧ SuR W b o n xs ad cp
theorem IsPlan.below {n : Nat} {xs : Nat → List Int × Int} {v : Value} {W W' : World} (h : IsPlan n xs v W) (hb : Below W.heap.size W W') : IsPlan n xs v W' := by
  obtain ⟨a, c, b, o, ad, cp, e, h1, h2, h3⟩ := h; exact ⟨a, c, b, o, ad, cp, e, h1, h2, h3.below hb⟩
theorem SuC.plan {B n c : Nat} {xs : Nat → List Int × Int} {cs : List Value} {a : Option Addr} {W : World} (h : SuC B W xs n cs) (hr : OwnN 70 2 B n cs a c W) : IsPlan n xs (.slice a n c) W := by
  have hx : ∀ j : Nat, ∃ q : Nat × Nat, j < n → cs[j * 2]? = some (.slice (some ⟨q.1, 0, none⟩) (xs j).1.length q.2) ∧ cs[j * 2 + 1]? = some (.int .i64 (xs j).2) ∧ OwnI B (xs j).1 q.1 q.2 W := fun j => by
    by_cases hj : j < n
    · obtain ⟨g, c, e1, e2, e3⟩ := h.2 j hj; exact ⟨(g, c), fun _ => ⟨e1, e2, e3⟩⟩
    · exact ⟨(0, 0), fun h => absurd h hj⟩
  have hq : ∃ q : Nat → Nat × Nat, ∀ j, j < n → cs[j * 2]? = some (.slice (some ⟨(q j).1, 0, none⟩) (xs j).1.length (q j).2) ∧ cs[j * 2 + 1]? = some (.int .i64 (xs j).2) ∧ OwnI B (xs j).1 (q j).1 (q j).2 W := ⟨fun j => Classical.choose (hx j), fun j => Classical.choose_spec (hx j)⟩
  obtain ⟨q, hq⟩ := hq
  rcases hr with ⟨rfl, rfl, rfl, rfl⟩ | ⟨g, rfl, hr⟩
  · exact ⟨none, 0, 0, 0, fun _ => none, fun _ => 0, rfl, Nat.le_refl _, fun h => by omega, fun h => by omega, fun j hj => by omega⟩
  · refine ⟨some ⟨g, 0, none⟩, c, g, 0, fun j => some ⟨(q j).1, 0, none⟩, fun j => (q j).2, rfl, (hr.rowA (bs := g + 1) h.1 (by omega)).2, fun _ => rfl, fun _ => hr.2.1, fun j hj => ?_⟩
    obtain ⟨e1, e2, e3⟩ := hq j hj
    rw [Nat.zero_add]
    exact ⟨hr.cell _ e1, hr.cell _ e2, e3.ii⟩
def AgS (B : Nat) (x : List Int × Int) (v : Value) (W : World) : Prop := ∃ g c, v = .agg #[.slice (some ⟨g, 0, none⟩) x.1.length c, .int .i64 x.2] ∧ OwnI B x.1 g c W
theorem AgS.below {B : Nat} {x : List Int × Int} {v : Value} {W W' : World} (h : AgS B x v W) (hb : Below W.heap.size W W') : AgS B x v W' := by
  obtain ⟨g, c, e, h⟩ := h; exact ⟨g, c, e, h.below hb⟩
def RwS (B : Nat) (x : List Int × Int) (v : Value) (W : World) : Prop := ∃ b g c, v = .slice (some ⟨b, 0, none⟩) 1 1 ∧ W.heap[b]? = some (.cells #[.slice (some ⟨g, 0, none⟩) x.1.length c, .int .i64 x.2] 70 (0, 0)) ∧ OwnI B x.1 g c W
theorem RwS.below {B : Nat} {x : List Int × Int} {v : Value} {W W' : World} (h : RwS B x v W) (hb : Below W.heap.size W W') : RwS B x v W' := by
  obtain ⟨b, g, c, e, h1, h2⟩ := h; exact ⟨b, g, c, e, blk_below h1 hb, h2.below hb⟩
set_option maxRecDepth 100000 in
set_option maxHeartbeats 8000000 in
theorem trOwn_any (n c bq oq : Nat) (al : Option Addr) (xs : Nat → List Int × Int) (ad : Nat → Option Addr) (cp : Nat → Nat) (w : World) (hal : 0 < n → al = some ⟨bq, oq, none⟩) (hS : SuR w bq oq n xs ad cp) (hn : n ≤ 1000) (hxl : ∀ j, j < n → 1 ≤ (xs j).1.length ∧ (xs j).1.length ≤ 1000) :
  Calls Try.prog 38 #[.slice (al) (n) (c)] w (fun e w' => ∃ v, e = .returned v ∧ IsPlan n xs v w' ∧ Below w.heap.size w w') := by
 refine calls_fr Try.func38 Try.ntmps38 rfl rfl fun g hg => ?_
 have k0 : g 0 = .slice (al) (n) (c) := hg 0
 clear hg
 have fB0 : Below w.heap.size w w := Below.refl _ _
 refine wp_seq_k fun K1 hK1 => ?_
 refine region_dk 1 [(2, 0)] [[]] (rel [is (.slice (none) (0) (0))])
  ⟨is_k, trivial⟩
  ⟨fun f s W d i l m p a => opv rfl rfl (by simp [go_sem]) rfl, trivial⟩ ?_
 intro f1 s1 W1 hB1 g1 hg1
 have fB1 := hB1.f fB0
 have z1 := hB1.below.size
 refine hK1 _ _ ?_
 have k1_0 := kt hg1 0 k0
 have k1_2 := kt hg1 2 (hB1.is 0)
 refine wp_seq_k fun K2 hK2 => ?_
 refine wp_seq_k fun K3 hK3 => ?_
 refine region_dk 3 [(5, 0), (6, 1), (7, 2)] [[], [0], []] (rel [is (.slice (al) (n) (c)),
   is (.int .i64 ((n : Int))),
   is (.int .i64 0)])
  ⟨is_k, is_k, is_k, trivial⟩
  ⟨fun f s W d i l m p a => opv rfl rfl (by simp [go_sem, a.e 0 k1_0]) rfl,
  fun f s W d i l m p a => opv rfl rfl (by simp [go_sem, a.e 5 (i 0 rfl)]) rfl,
  fun f s W d i l m p a => opv rfl rfl (by simp [go_sem]) rfl, trivial⟩ ?_
 intro f2 s2 W2 hB2 g2 hg2
 have fB2 := hB2.f fB1
 have z2 := hB2.below.size
 refine hK3 _ _ ?_
 have k2_2 := kt hg2 2 k1_2
 have k2_5 := kt hg2 5 (hB2.is 0)
 have k2_6 := kt hg2 6 (hB2.is 1)
 have k2_7 := kt hg2 7 (hB2.is 2)
 have on0 : OwnN 70 2 w.heap.size 0 [] none 0 W2 := ownN_nil
 have su0 : SuC w.heap.size W2 xs 0 [] := ⟨rfl, fun j hj => absurd hj (Nat.not_lt_zero _)⟩
 refine wp_block ?_
 refine wp_loop_n (fun m_ a_ W_ => ∃ g_ : Nat → Value, a_ = fr 22 g_ ∧ (∃ k : Nat, ∃ aq : Option Addr, ∃ cq : Nat, ∃ cs : List Value, m_ = n - k ∧ g_ 5 = .slice (al) (n) (c) ∧ g_ 6 = .int .i64 ((n : Int)) ∧ g_ 7 = .int .i64 ((k : Int)) ∧ g_ 2 = .slice (aq) (k) (cq) ∧ Below w.heap.size w W_ ∧ W2.heap.size ≤ W_.heap.size ∧ OwnN 70 2 w.heap.size k cs aq cq W_ ∧ SuC w.heap.size W_ xs k cs ∧ (k ≤ n))) ⟨_, g2, rfl, 0, none, 0, [], rfl, k2_5, k2_6, k2_7.trans (by rfl), k2_2.trans (by rfl), fB2, Nat.le_refl _, on0, su0, (by omega)⟩ ?_
 rintro _ _ W_1 ⟨g_1, rfl, k, aq, cq, cs, rfl, k_1_5, k_1_6, k_1_7, k_1_2, fB_1, z_1, q2', q3', lk0⟩
 refine wp_seq_k fun K4 hK4 => ?_
 refine region_dk 1 [(8, 0)] [[]] (rel [is (.bool (decide ((k : Int) < (n : Int))))])
  ⟨is_k, trivial⟩
  ⟨fun f s W d i l m p a => opv rfl rfl (by simp [go_sem, a.e 7 k_1_7, a.e 6 k_1_6]) rfl, trivial⟩ ?_
 intro f3 s3 W3 hB3 g3 hg3
 have fB3 := hB3.f fB_1
 have z3 := hB3.below.size
 have q4' := (q2'.below hB3.below)
 have q5' := (q3'.below hB3.below)
 refine hK4 _ _ ?_
 have k3_5 := kt hg3 5 k_1_5
 have k3_6 := kt hg3 6 k_1_6
 have k3_7 := kt hg3 7 k_1_7
 have k3_2 := kt hg3 2 k_1_2
 have k3_8 := kt hg3 8 (hB3.is 0)
 refine wp_seq_k fun K5 hK5 => ?_
 refine wp_cond_split (t := decide ((k : Int) < (n : Int))) ((fr_eval rfl).trans k3_8) (fun hc6 => ?_) (fun hc6 => ?_)
 ·
  have hc6' := hc6; try simp only [ba] at hc6'
  have hkn : k < n := by omega
  have limA := OwnN.lim q4'
  refine wp_skip ?_
  refine hK5 _ _ ?_
  refine wp_seq_k fun K7 hK7 => ?_
  refine wp_block ?_
  refine wp_seq_k fun K8 hK8 => ?_
  refine region_dk 3 [(9, 0), (10, 1), (4, 2)] [[], [0], [], [0, 1, 2]] (rel [is (.pointer (some ⟨bq, oq + k * 2, none⟩)),
   is (.agg #[.slice ((ad k)) ((xs k).1.length) ((cp k)), .int .i64 ((xs k).2)]),
   bx 2 #[.slice (none) (0) (0), .int .i64 0] 70])
   ⟨is_k, is_k, bx_k, trivial⟩
   ⟨fun f s W d i l m p a => by have hab := hal (by omega); have li_ := Nat.not_le.2 (show k < n by omega); have li2_ : (k : Int) < (n : Int) := (by omega); exact opv rfl rfl (by simp [go_sem, a.e 5 k3_5, a.e 7 k3_7, hab, li_, li2_]) rfl,
  fun f s W d i l m p a => by have q := below_trans fB3 d; have cu_ := (hS.below q).2 k (by omega); have cu0_ := cu_.1; have cu1_ := cu_.2.1; exact opv rfl rfl (by simp [go_sem, a.e 9 (i 0 rfl), cu0_, cu1_]) rfl,
  fun f s W d i l m p a => opb rfl rfl (by simp [go_sem]), trivial⟩ ?_
  intro f4 s4 W4 hB4 g4 hg4
  have fB4 := hB4.f fB3
  have z4 := hB4.below.size
  have q6' := (q4'.below hB4.below)
  have q7' := (q5'.below hB4.below)
  obtain ⟨r4_2, br4_2⟩ := hB4.is 2
  have lr4_2 := hB4.lr 2 br4_2
  have k4_5 := kt hg4 5 k3_5
  have k4_6 := kt hg4 6 k3_6
  have k4_7 := kt hg4 7 k3_7
  have k4_2 := kt hg4 2 k3_2
  have k4_10 := kt hg4 10 (hB4.is 1)
  have k4_4 := kt hg4 4 r4_2
  obtain ⟨W5, hW5⟩ : ∃ W', W' = W4.setRow (s4 2) #[.slice ((ad k)) ((xs k).1.length) ((cp k)), .int .i64 ((xs k).2)] := ⟨_, rfl⟩
  refine tail_skip (o := _) rfl ⟨rfl, rfl⟩ (run_seg hW5 (fr_ev k4_4) (fr_ev k4_10) br4_2 rfl rfl rfl rfl) ?_
  obtain ⟨fB5, nb5, ot5, z5⟩ := seg_facts hW5 fB4 br4_2 (by omega)
  clear hW5
  have q8' := q6'.other ot5 (fun g e => by have := limA g e; omega) z5
  have q9' := q7'.other ot5 (br4_2) z5
  refine wpOps_end ?_
  refine hK8 _ _ ?_
  refine region_dk 8 [(11, 0), (12, 1), (13, 2), (14, 3), (15, 4), (16, 5), (17, 6), (18, 7), (19, 8), (2, 9)] [[], [], [1], [1, 2], [], [4], [1, 2, 3, 4, 5], [1, 2, 3, 4, 5, 6], [0, 1, 2, 3, 4, 5, 6, 7], [0, 1, 2, 3, 4, 5, 6, 7, 8]] (rel [is (.slice (aq) (k) (cq)),
   is (.pointer (some ⟨(s4 2), 0, none⟩)),
   is (.slice ((ad k)) ((xs k).1.length) ((cp k))),
   ab fun v W => OwI w.heap.size (xs k).1 (xs k).1.length v W,
   is (.pointer (some ⟨(s4 2), 1, none⟩)),
   is (.int .i64 ((xs k).2)),
   ab fun v W => AgS w.heap.size (xs k) v W,
   ab fun v W => RwS w.heap.size (xs k) v W])
   ⟨is_k, is_k, is_k, ab_k fun v W W' hb h => h.below hb, is_k, is_k, ab_k fun v W W' hb h => h.below hb, ab_k fun v W W' hb h => h.below hb, trivial⟩
   ⟨fun f s W d i l m p a => opv rfl rfl (by simp [go_sem, a.e 2 ((m 9 2 rfl rfl).trans k4_2)]) rfl,
  fun f s W d i l m p a => opv rfl rfl (by simp [go_sem, a.e 4 k4_4]) rfl,
  fun f s W d i l m p a => opv rfl rfl (by simp [go_sem, a.e 12 (i 1 rfl), cb nb5 d 0]) rfl,
  fun f s W d i l m p a => by have q := below_trans fB5 d; exact opDo_call rfl rfl (by simp [go_sem, a.e 13 (i 2 rfl)]) (clone_own (ad k) (xs k).1.length (cp k) (xs k).1 W ((hS.below q).2 k (by omega)).2.2 (hxl k (by omega))) ((fun e W' h => by obtain ⟨v, e1, ⟨g_, c_, e2, h1⟩, h2⟩ := h; exact ⟨v, e1, h2, ⟨g_, c_, e2, h1.low q.size⟩⟩)),
  fun f s W d i l m p a => opv rfl rfl (by simp [go_sem, a.e 4 k4_4]) rfl,
  fun f s W d i l m p a => opv rfl rfl (by simp [go_sem, a.e 15 (i 4 rfl), cb nb5 d 1]) rfl,
  fun f s W d i l m p a => by obtain ⟨g10', c11', d3, q12'⟩ := (i 3 rfl); exact opv (v := (.agg #[.slice (some ⟨g10', 0, none⟩) ((xs k).1.length) (c11'), .int .i64 ((xs k).2)])) rfl rfl (by simp [go_sem, a.e 14 d3, a.e 16 (i 5 rfl)]) ⟨_, _, rfl, q12'⟩,
  fun f s W d i l m p a => by obtain ⟨g13', c14', d6, q15'⟩ := (i 6 rfl); exact opDo_value (v := .slice (some ⟨W.heap.size, 0, none⟩) 1 1) rfl rfl (by simp [go_sem, a.e 17 d6]) (balloc1 _ _) ⟨_, _, _, rfl, blk_new rfl, q15'.below (balloc1 _ _)⟩, trivial⟩ ?_
  intro f6 s6 W6 hB6 g6 hg6
  have fB6 := hB6.f fB5
  have z6 := hB6.below.size
  have b6_0 := hB6.b nb5
  have q16' := (q8'.below hB6.below)
  have q17' := (q9'.below hB6.below)
  obtain ⟨b18', g19', c20', r6_7, q21', q22'⟩ := hB6.is 7
  have k6_5 := kt hg6 5 k4_5
  have k6_6 := kt hg6 6 k4_6
  have k6_7 := kt hg6 7 k4_7
  have k6_11 := kt hg6 11 (hB6.is 0)
  have k6_18 := kt hg6 18 r6_7
  obtain ⟨ga7, ca7, W7, ra7, ow7, ot7, z7, gg7, fB7⟩ := growN_tail 37 37 70 2 32 _ (by kernel_rfl) infoS rfl (cs ++ [.slice (some ⟨g19', 0, none⟩) ((xs k).1.length) (c20'), .int .i64 ((xs k).2)]) (k + 1) (off := 0) (k := 1) (c' := 1) [.slice (some ⟨g19', 0, none⟩) ((xs k).1.length) (c20'), .int .i64 ((xs k).2)] fB6 q16' rfl rfl rfl rfl (cells_at q21') (by omega)
  have su7 := SuC.snoc q17' q16' ot7 z7 q22'
  refine tail_value2 (o := _) rfl rfl rfl (run_appendOp (fr_ev k6_11) (fr_ev k6_18) ra7) ?_
  have on7 : OwnN 70 2 w.heap.size (k + 1) (cs ++ [.slice (some ⟨g19', 0, none⟩) ((xs k).1.length) (c20'), .int .i64 ((xs k).2)]) (some ⟨ga7, 0, none⟩) ca7 W7 := .inr ⟨_, rfl, ow7⟩
  generalize hg7 : upd g6 19 (.slice (some ⟨ga7, 0, none⟩) ((k + 1)) (ca7)) = g7
  have k7_5 := ku hg7 5 k6_5
  have k7_6 := ku hg7 6 k6_6
  have k7_7 := ku hg7 7 k6_7
  have k7_19 := kt hg7 19 (upd_same _ _ _)
  refine tail_value (o := _) rfl rfl rfl (v := .slice (some ⟨ga7, 0, none⟩) ((k + 1)) (ca7)) (by simp [go_sem, frv 22 k7_19]) ?_
  generalize hg8 : upd g7 2 (.slice (some ⟨ga7, 0, none⟩) ((k + 1)) (ca7)) = g8
  have k8_5 := ku hg8 5 k7_5
  have k8_6 := ku hg8 6 k7_6
  have k8_7 := ku hg8 7 k7_7
  have k8_2 := kt hg8 2 (upd_same _ _ _)
  refine wpOps_end ?_
  refine inBlock_normal ?_
  refine hK7 _ _ ?_
  refine region_dk 2 [(20, 0), (7, 1)] [[], [0]] (rel [is (.int .i64 ((k : Int) + 1)),
   is (.int .i64 ((k : Int) + 1))])
   ⟨is_k, is_k, trivial⟩
   ⟨fun f s W d i l m p a => opv rfl rfl (by simp [go_sem, a.e 7 ((m 1 7 rfl rfl).trans k8_7), IntWalk.i64_in ((k : Int) + 1) (by omega)]) rfl,
  fun f s W d i l m p a => opv rfl rfl (by simp [go_sem, a.e 20 (i 0 rfl)]) rfl, trivial⟩ ?_
  intro f9 s9 W9 hB9 g9 hg9
  have fB9 := hB9.f fB7
  have z9 := hB9.below.size
  have q23' := (on7.below hB9.below)
  have q24' := (su7.below hB9.below)
  refine wpOps_end ?_
  have k9_5 := kt hg9 5 k8_5
  have k9_6 := kt hg9 6 k8_6
  have k9_2 := kt hg9 2 k8_2
  have k9_7 := kt hg9 7 (hB9.is 1)
  refine then_normal ?_
  exact ⟨_, by omega, g9, rfl, k + 1, some ⟨ga7, 0, none⟩, ca7, (cs ++ [.slice (some ⟨g19', 0, none⟩) ((xs k).1.length) (c20'), .int .i64 ((xs k).2)]), rfl, k9_5, k9_6, k9_7.trans (by go_num), k9_2.trans (by go_num), fB9, (by omega), q23', q24', (by omega)⟩
 ·
  have hc6' := hc6; try simp only [ba] at hc6'
  have hkn : k = n := by omega
  refine wp_exit ?_
  refine then_exit ?_
  refine then_exit ?_
  refine inBlock_at ?_
  refine hK2 _ _ ?_
  refine wp_seq_k fun K9 hK9 => ?_
  refine region_dk 2 [(21, 0), (2, 1)] [[], [0]] (rel [is (.slice (aq) (k) (cq)),
   is (.slice (aq) (k) (cq))])
   ⟨is_k, is_k, trivial⟩
   ⟨fun f s W d i l m p a => opv rfl rfl (by simp [go_sem, a.e 2 ((m 1 2 rfl rfl).trans k3_2)]) rfl,
  fun f s W d i l m p a => opv rfl rfl (by simp [go_sem, a.e 21 (i 0 rfl)]) rfl, trivial⟩ ?_
  intro f10 s10 W10 hB10 g10 hg10
  have fB10 := hB10.f fB3
  have z10 := hB10.below.size
  have q25' := (q4'.below hB10.below)
  have q26' := (q5'.below hB10.below)
  refine hK9 _ _ ?_
  have k10_2 := kt hg10 2 (hB10.is 1)
  refine wp_ret ?_
  refine leave_one (N := 22) (v := .slice (aq) (k) (cq)) (.inr rfl) Try.results38 rfl k10_2 ?_
  have e_ : k = n := by omega
  subst e_
  exact ⟨_, rfl, SuC.plan q26' q25', fB10⟩
end Go.Proofs.Ytnhipdbdolabkaa
