/- Part of the proof: what the claim leans on. -/
import Derived.Test.YtcgccflcjejlhaaVAX
import Derived.Test.YtcgccflcjejlhaaVBD
import Derived.Test.YtcgccflcjejlhaaVBH
import Derived.Test.YtcgccflcjejlhaaVBI
import Derived.Test.YtcgccflcjejlhaaVAB
import Derived.Test.YtcgccflcjejlhaaVBF
import Derived.Test.YtcgccflcjejlhaaVAI
import Derived.Test.YtcgccflcjejlhaaVAR
set_option maxHeartbeats 8000000
set_option maxRecDepth 100000
set_option linter.unusedSimpArgs false
set_option linter.unusedVariables false
namespace Go.Proofs.Ytcgccflcjejlhaa
open Go.RowKit
theorem SpL.at' {W : World} {a : Option Addr} {n : Nat} {ss : Nat → Int × Int} (h : SpL W a n ss) : ∃ b o, 0 < n → a = some ⟨b, o, none⟩ ∧ SpR W b o n ss := by
  rcases h with h | ⟨b, o, e, h⟩
  · exact ⟨0, 0, fun h0 => by omega⟩
  · exact ⟨b, o, fun _ => ⟨e, h⟩⟩
theorem RdL.at' {W : World} {a : Option Addr} {n : Nat} {lg : Nat → Int} (h : RdL W a n lg) : ∃ b o, 0 < n → a = some ⟨b, o, none⟩ ∧ RdR W b o n lg := by
  rcases h with h | ⟨b, o, e, h⟩
  · exact ⟨0, 0, fun h0 => by omega⟩
  · exact ⟨b, o, fun _ => ⟨e, h⟩⟩
theorem ln_at {W : World} {b n i : Nat} {f : Nat → Int} (h : LnL W (some ⟨b, 0, none⟩) n f) (hi : i < n) : W.cell? ⟨b, i, none⟩ = some (.int .i64 (f i)) := by
  obtain ⟨b', e, h1, h2⟩ := h
  cases e
  have := h2 i hi
  rw [Nat.mul_one] at this
  exact this
theorem LnL.some {W : World} {a : Option Addr} {n : Nat} {f : Nat → Int} (h : LnL W a n f) : ∃ b, a = some ⟨b, 0, none⟩ := by
  obtain ⟨b', e, h1, h2⟩ := h
  exact ⟨b', e⟩
theorem roll_bd {tl t : Int} {ss : Nat → Int × Int} {ln : Nat → Int} {n : Nat} (ht0 : 0 ≤ t) (htl : 0 ≤ tl ∧ tl ≤ 49) (ho : ∀ i, i < n → RoIn tl (ss i)) (h : ∀ i, i < n → tl < (ss i).1 ∧ (ss i).1 ≤ ln i ∧ ln i ≤ (ss i).2) {k : Nat} (hk : k ≤ n) :
    (0 ≤ leF tl t ln k ∧ leF tl t ln k ≤ t) ∧ 0 ≤ atR tl ln k ∧ atR tl ln k ≤ 10000 * (k : Int) := by
  have h1 := leF_at ht0 h k hk
  have h2 := atR_in h k hk
  have h3 := usplF_bd (by omega) ho k hk
  omega
def fiB (lg : Nat → Int) (m : Nat) (x : Int) : Nat → Bool
  | 0 => decide (bgF lg m * 4 ≤ x * 3)
  | j + 1 => fiB lg m x j || (x * 3 == bgF lg (j + 1) * 4)
theorem fiB_0 {lg : Nat → Int} {m : Nat} {x : Int} (h : bgF lg m * 4 ≤ x * 3) : ∀ i, fiB lg m x i = true
  | 0 => decide_eq_true h
  | i + 1 => by rw [fiB, fiB_0 h i]; rfl
theorem fiB_j {lg : Nat → Int} {m j : Nat} {x : Int} (h : x * 3 = bgF lg (j + 1) * 4) : ∀ i, j < i → fiB lg m x i = true
  | 0, hj => absurd hj (Nat.not_lt_zero _)
  | i + 1, hj => by
    rw [fiB]
    by_cases e : j = i
    · subst e
      rw [h, beq_self_eq_true, Bool.or_true]
    · rw [fiB_j h i (by omega)]; rfl
theorem fi_law {tl : Int} {ss : Nat → Int × Int} {ln lg : Nat → Int} {n m : Nat} (hb : fltB (badB 4 3 tl ss n lg) m = false) (hu : 0 ≤ (usplF tl ss n).1) (h : ∀ i, i < n → tl < (ss i).1 ∧ (ss i).1 ≤ ln i ∧ ln i ≤ (ss i).2) {k : Nat} (hk : k < n) : fiB lg m (atR tl ln (k + 1)) m = true := by
  rcases fine_law hb hu h hk with h1 | ⟨j, hj, h1⟩
  · exact fiB_0 h1 m
  · exact fiB_j h1 m hj
theorem own_at {W : World} {T : TypeId} {B g c k n : Nat} {xs : List Int} (h : OwnR T 1 B n (iis xs) g c W) (hk : k < xs.length) : W.cell? ⟨g, k, none⟩ = some (.int .i64 (elT xs k)) := by
  refine h.cell k ?_
  unfold iis elT
  rw [List.getElem?_map, List.getD_eq_getElem?_getD, List.getElem?_eq_getElem hk]
  rfl
theorem good_new {n k : Nat} {xs : List Int} (h : GoodL n xs) (hk : k < xs.length) : elT xs k ∉ xs.take k := by
  intro hm
  obtain ⟨j, hj, e⟩ := List.getElem_of_mem hm
  have hj' : j < k := by simp at hj; omega
  have hp := List.pairwise_iff_getElem.1 h.2 j k (by omega) hk hj'
  rw [List.getElem_take] at e
  unfold elT at e
  rw [List.getD_eq_getElem?_getD, List.getElem?_eq_getElem hk] at e
  exact hp e
theorem take_elT {k : Nat} {xs : List Int} (hk : k < xs.length) : xs.take (k + 1) = xs.take k ++ [elT xs k] := by
  unfold elT
  rw [List.take_add_one, List.getD_eq_getElem?_getD, List.getElem?_eq_getElem hk]
  rfl
theorem pk_at {ss : Nat → Int × Int} {xs : List Int} {k u : Nat} (h : elT xs k = (u : Int)) : pkS ss xs k = ss u := by
  unfold pkS; rw [h]; rfl
theorem ownR_blk {T : TypeId} {z B n g c : Nat} {cs : List Value} {W : World} (h : OwnR T z B n cs g c W) : ∃ cur : Array Value, W.heap[g]? = some (.cells cur T (0, 0)) := by
  rcases h.2.2.2 with ⟨e, h4⟩ | ⟨g', cap, cur, e, h5, h6, h7⟩
  · exact absurd (Value.slice.inj e).1 (by simp)
  · obtain ⟨e1, -, -⟩ := Value.slice.inj e
    cases e1
    exact ⟨cur, h6⟩
theorem ownN_map {T : TypeId} {z B n c r : Nat} {cs : List Value} {a : Option Addr} {W : World} {xs : List Int} (h : OwnN T z B n cs a c W) (hm : MapI W r xs) : ∀ g, a = some ⟨g, 0, none⟩ → g ≠ r := by
  rintro g rfl rfl
  rcases h with ⟨e, -⟩ | ⟨g', e, h⟩
  · cases e
  · cases e
    obtain ⟨cur, hc⟩ := ownR_blk h
    obtain ⟨es, k, h1, -⟩ := hm
    rw [h1] at hc; cases hc
theorem MapI.ne {W : World} {r b : Nat} {xs : List Int} {cs : Array Value} {T : TypeId} {m : Nat × Nat} (h : MapI W r xs) (hb : W.heap[b]? = some (.cells cs T m)) : b ≠ r := by
  rintro rfl
  obtain ⟨es, k, h1, -⟩ := h
  rw [h1] at hb; cases hb
theorem MapI.grow {T : TypeId} {z B n c r : Nat} {cs : List Value} {a : Option Addr} {W W' : World} {xs : List Int} (hm : MapI W r xs) (h : OwnN T z B n cs a c W) (hot : ∀ k y, (∀ g, a = some ⟨g, 0, none⟩ → g ≠ k) → W.heap[k]? = some y → W'.heap[k]? = some y) : MapI W' r xs := by
  have hne := ownN_map h hm
  obtain ⟨es, k, h1, h2⟩ := hm
  exact ⟨es, k, hot _ _ hne h1, h2⟩
theorem upF_t (x : Int) : upF (x * 4) 3 = (x * 4 + 2) / 3 := by unfold upF; omega
theorem iq_addr {W : World} {a : Option Addr} {n c : Nat} {xs : List Int} (h : Ii W a n c xs) (h0 : 0 < n) : ∃ b o, a = some ⟨b, o, none⟩ := by
  obtain ⟨b, o, h1⟩ := h.open
  exact ⟨b, o, (h1 h0).1⟩
theorem iq_atn {W : World} {a : Option Addr} {b o n c k : Nat} {xs : List Int} (h : Ii W a n c xs) (e : a = some ⟨b, o, none⟩) (hk : k < n) : W.cell? ⟨b, o + k, none⟩ = some (.int .i64 (elT xs k)) := by
  obtain ⟨b', o', h1⟩ := h.open
  obtain ⟨e', h2⟩ := h1 (by omega)
  rw [e] at e'
  cases e'
  exact h2 W (Below.refl _ _) k hk
theorem gotq_at (ys : Nat → List Int × Int) (k : Nat) {i : Nat} (hi : i < 3) : elT (gotK ys (k + 1)) i = elT (gotK ys k) i + elT (ys k).1 i * (ys k).2 := by
  rw [gotK, addK_at _ _ _ _ _ (by rw [gotK_len]; exact Nat.le_refl _), if_pos hi]
def lgY (ys : Nat → List Int × Int) (j : Nat) : Int := 10 * (ys j).2
theorem lgY_in {p : Tp} {os : Nat → To} {n : Nat} {ys : Nat → List Int × Int} (h : GetOk p os n ys) : ∀ i, i < n → RdIn (lgY ys i) := fun i hi => by
  have := h.rn i hi
  show 1 ≤ 10 * (ys i).2 ∧ 10 * (ys i).2 ≤ 100000
  omega
theorem ownN_rdL {B n c : Nat} {lg : Nat → Int} {a : Option Addr} {W : World} (h : OwnN 76 2 B n (rowC (rdC lg) n) a c W) : RdL W a n lg := by
  rcases h with ⟨_, h, _⟩ | ⟨g, rfl, h⟩
  · exact .inl h
  · refine .inr ⟨g, 0, rfl, h.2.1, fun i hi => ⟨?_, ?_⟩⟩
    · have e := h.cell (i * 2 + 0) (rowC_at (f := rdC lg) (z := 2) (fun _ => rfl) (j := 0) (by decide) n i hi)
      rw [Nat.zero_add]; exact e
    · have e := h.cell (i * 2 + 1) (rowC_at (f := rdC lg) (z := 2) (fun _ => rfl) (j := 1) (by decide) n i hi)
      rw [Nat.zero_add]; exact e
def PlD (B : Nat) (nu de tl : Int) (ss : Nat → Int × Int) (n : Nat) (lg : Nat → Int) (m : Nat) (x : Value) (W : World) : Prop := x = .tuple #[.slice none 0 0, .int .i64 9] ∨ ∃ xs g c, x = .tuple #[.slice (some ⟨g, 0, none⟩) (List.length xs) c, .int .i64 0] ∧ OwnR 3 1 B xs.length (iis xs) g c W ∧ GoodL n xs ∧ xs.length ≤ n ∧ fltB (badB nu de tl (pkS ss xs) xs.length lg) m = false
theorem PlD.below {B : Nat} {nu de tl : Int} {ss : Nat → Int × Int} {n : Nat} {lg : Nat → Int} {m : Nat} {x : Value} {W W' : World} (h : PlD B nu de tl ss n lg m x W) (hb : Below W.heap.size W W') : PlD B nu de tl ss n lg m x W' := by
  rcases h with h | ⟨xs, g, c, e, h1, h2⟩
  · exact .inl h
  · exact .inr ⟨xs, g, c, e, h1.below hb, h2⟩
theorem PlD.low {B B' : Nat} {nu de tl : Int} {ss : Nat → Int × Int} {n : Nat} {lg : Nat → Int} {m : Nat} {x : Value} {W : World} (h : PlD B nu de tl ss n lg m x W) (hB : B' ≤ B) : PlD B' nu de tl ss n lg m x W := by
  rcases h with h | ⟨xs, g, c, e, ⟨h1, h2, h3⟩, h4⟩
  · exact .inl h
  · exact .inr ⟨xs, g, c, e, ⟨by omega, h2, ownsRow_low h3 hB⟩, h4⟩
def IsPl (B : Nat) (nu de tl : Int) (ss : Nat → Int × Int) (n : Nat) (lg : Nat → Int) (m : Nat) (v : Value) (W : World) : Prop := ∃ x, v = x ∧ PlD B nu de tl ss n lg m x W
theorem IsPl.below {B : Nat} {nu de tl : Int} {ss : Nat → Int × Int} {n : Nat} {lg : Nat → Int} {m : Nat} {v : Value} {W W' : World} (h : IsPl B nu de tl ss n lg m v W) (hb : Below W.heap.size W W') : IsPl B nu de tl ss n lg m v W' := by
  obtain ⟨x, e, h⟩ := h; exact ⟨x, e, h.below hb⟩
theorem SpL.otherZ {W W' : World} {B : Nat} {a : Option Addr} {n : Nat} {ss : Nat → Int × Int} {T : TypeId} {mm : Nat × Nat} (h : SpL W a n ss) (hot : ∀ k x, k ≠ B → W.heap[k]? = some x → W'.heap[k]? = some x) (hp : 0 < n → 1 ≤ (ss 0).1) (hb : W.heap[B]? = some (.cells #[.int .i64 0, .int .i64 0, .int .i64 0, .slice none 0 0] T mm)) (hz : W.heap.size ≤ W'.heap.size) : SpL W' a n ss := by
  rcases h with h | ⟨b, o, e, h⟩
  · exact .inl h
  · rcases Nat.eq_zero_or_pos n with h0 | h0
    · exact .inl h0
    · refine .inr ⟨b, o, e, h.otherB hot (fun e' => ?_) hz⟩
      have hp := hp h0
      have h1 := (h.2 0 h0).1
      rw [e', World.cell?] at h1
      simp only [hb, Nat.zero_mul, Nat.add_zero] at h1
      match o, h1 with
      | 0, h1 => simp at h1; omega
      | 1, h1 => simp at h1; omega
      | 2, h1 => simp at h1; omega
      | 3, h1 => simp at h1
      | o + 4, h1 => simp at h1
theorem mapUpdate_tail {P : Program} {mt kt et : TypeId} (hm : P.underlying mt = some (.map kt et)) (hk : P.underlying kt = some (.int .i64)) {W : World} {r : Nat} {xs : List Int} {x : Int} (v : Value) (h : MapI W r xs) (hx : x ∉ xs) :
    ∃ W', (∀ (a : Act) (dst : Option Nat) (tt : TypeId) (X Y Z : Operand) (pos : String) (af : Array Edge) (gd : Option (Nat × Bool)), a.eval X = .map (some r) → a.eval Y = .int .i64 x → a.eval Z = v → (execOp a.eval { dst := dst, op := .mapUpdate mt X Y Z, type := tt, pos := pos, after := af, guard := gd }).run P W = .ok .skip W') ∧ MapI W' r (xs ++ [x]) ∧ (∀ k y, k ≠ r → W.heap[k]? = some y → W'.heap[k]? = some y) ∧ W.heap.size ≤ W'.heap.size ∧ (∀ B, B ≤ r → B ≤ W.heap.size → Below B W W') := by
  obtain ⟨es, c, h1, h2⟩ := h
  have hg := MapKept.run_getObj_map (P := P) h1
  have hc := MapKept.run_checkKey (P := P) (w := W) (kt := kt) (d := .int .i64) (k := .int .i64 x) hk rfl false 9999
  have hf := MapKept.run_findKey (P := P) (w := W) (kt := kt) (d := .int .i64) (k := .int .i64 x) hk (map_find h2 hx)
  have hs := MapKept.run_setObj_map (P := P) (Obj.map (es.push { key := .int .i64 x, val := v, born := c }) (c + 1)) h1
  obtain ⟨g1, g2⟩ := MapKept.heap_set (o' := Obj.map (es.push { key := .int .i64 x, val := v, born := c }) (c + 1)) h1
  refine ⟨{ W with heap := W.heap.setIfInBounds r (Obj.map (es.push { key := .int .i64 x, val := v, born := c }) (c + 1)) }, fun a dst tt X Y Z pos af gd e1 e2 e3 => ?_, ⟨_, _, g1, ?_⟩, fun k y hk hy => (g2 k hk).trans hy, by simp, fun B hB hBW => ⟨rfl, rfl, rfl, by simp, fun k hk => g2 k (by omega)⟩⟩
  · simp [execOp, Instr.mapUpdate, e1, e2, e3, run_underlying hm, hg, hc, hf, hs, Sem.run_bind]
  · simp [h2]
open Go.RowKit
def tailC : Nat → Code → Code
  | n + 1, .seq _ b => tailC n b
  | _, c => c
def bodyC (f : Func) : Code := f.body.getD .skip
open Go.RowKit
theorem planF_ok {p : Tp} {os : Nat → To} {L : List (List Int)} {q : Se} : ∀ (c n : Nat), n + c ≤ 4 → planF (seN p os L) c n = some q → PlOk L q.best ∧ q.best.length ≤ 3
  | 0, n, _, h => by cases h
  | c + 1, n, hn, h => by
    rw [planF] at h
    split at h
    · cases h
      exact tryF_ok p os 3 L n [] 0 0 [0, 0, 0] ⟨[], 0, false⟩ (fun x h => nomatch h) (Nat.zero_le _) (by simp; omega) ⟨fun x h => (nomatch h), Nat.zero_le _⟩
    · exact planF_ok c (n + 1) (by omega) h
theorem plX_len {p : Tp} {os : Nat → To} {no : Nat} {L : List (List Int)} {pl : List (Nat × Int)} (hL : LOk p os no L) (h : PlOk L pl) {j : Nat} (hj : j < pl.length) : (plX L pl j).1.length = no := by
  unfold plX
  rw [List.getD_eq_getElem?_getD, List.getElem?_eq_getElem hj]
  exact hL.n _ (h _ (List.getElem_mem hj))
theorem tr_Plan (p : Tp) (os : Nat → To) (bo oo co : Nat) (q : Se) (w : World) (hO : OrdR w bo oo 3 os) (hp : TpIn p) (ho : ∀ i, i < 3 → ToIn (os i)) (hq : planF (seN p os (patL p os 3 3 [])) 4 0 = some q) :
  Calls Try.prog 12 #[.agg #[.int .i64 p.wide, .int .i64 p.tlo, .int .i64 p.thi, .int .i64 p.webs], .slice (some ⟨bo, oo, none⟩) 3 co] w (fun e w' => ∃ v, e = .returned (.tuple #[v, .int .i64 0]) ∧ IsPlan q.best.length (plX (patL p os 3 3 []) q.best) v w' ∧ Below w.heap.size w w') := by
 have hok_ := planF_ok 4 0 (by decide) hq
 refine calls_fr Try.func12 Try.ntmps12 rfl rfl fun g hg => ?_
 have k0 : g 0 = .agg #[.int .i64 p.wide, .int .i64 p.tlo, .int .i64 p.thi, .int .i64 p.webs] := hg 0
 have k1 : g 1 = .slice (some ⟨bo, oo, none⟩) 3 co := hg 1
 clear hg
 have fB0 : Below w.heap.size w w := Below.refl _ _
 refine rw_ 3 [(2, 0), (4, 1), (5, 2)] [[], [], []] (rel [bx 0 #[.int .i64 p.wide, .int .i64 p.tlo, .int .i64 p.thi, .int .i64 p.webs] 61, is (.slice none 0 0), iI 0])
  ⟨fun f s W c d k l m a => opb rfl rfl (by simp [go_sem, a.e 0 k0]),
  fun f s W c d k l m a => opv rfl rfl (by simp [go_sem]) rfl,
  fun f s W c d k l m a => opz, trivial⟩ ?_
 intro f1 s1 W1 hB1 g1 hg1 z1
 have fB1 := hB1.f fB0
 obtain ⟨r1_0, br1_0⟩ := hB1.is 0
 have lr1_0 := hB1.lr 0 br1_0
 have k1_1 := kt hg1 1 k1
 have k1_2 := kt hg1 2 r1_0
 refine wp_seq_k fun K2 hK2 => ?_
 refine ry 7 [(12, 0), (13, 1), (14, 2), (11, 3), (15, 4), (16, 5), (6, 6), (7, 8)] [[], [], [0, 1], [2], [3], [3], [], [0, 1, 2, 3, 4, 6], [0, 1, 2, 3, 4, 5, 6, 7]] (rel [is (.agg #[.int .i64 p.wide, .int .i64 p.tlo, .int .i64 p.thi, .int .i64 p.webs]), is (.slice (some ⟨bo, oo, none⟩) 3 co), is (.tuple #[.agg #[.int .i64 p.wide, .int .i64 p.tlo, .int .i64 p.thi, .int .i64 p.webs, .slice (some ⟨bo, oo, none⟩) 3 co], .int .i64 0]), is (.tuple #[.agg #[.int .i64 p.wide, .int .i64 p.tlo, .int .i64 p.thi, .int .i64 p.webs, .slice (some ⟨bo, oo, none⟩) 3 co], .int .i64 0]), is (.agg #[.int .i64 p.wide, .int .i64 p.tlo, .int .i64 p.thi, .int .i64 p.webs, .slice (some ⟨bo, oo, none⟩) 3 co]), iI 0, bx 6 #[.int .i64 0, .int .i64 0, .int .i64 0, .int .i64 0, .slice none 0 0] 110])
  ⟨fun f s W c d k l m a => opl rfl rfl rfl (a.v 2 k1_2) (bwb br1_0 c) Try.underlying61 rfl (by kernel_rfl) rfl,
  fun f s W c d k l m a => opm (a.v 1 k1_1),
  fun f s W c d k l m a => by have n := bwt fB1 c; exact opc rfl rfl (by simp [go_sem, a.e 12 (d 0 rfl), a.e 13 (d 1 rfl)]) (tr_open p os bo oo 3 co W (hO.below n) hp ho (by decide)),
  fun f s W c d k l m a => opm (a.v 14 (d 2 rfl)),
  fun f s W c d k l m a => opv rfl rfl (by simp [go_sem, a.e 11 (d 3 rfl)]) rfl,
  fun f s W c d k l m a => opv rfl rfl (by simp [go_sem, a.e 11 (d 3 rfl)]) rfl,
  fun f s W c d k l m a => opb rfl rfl (by simp [go_sem]), trivial⟩ ?_
 intro f2 s2 W2 hB2 g2 hg2 z2
 have fB2 := hB2.f fB1
 obtain ⟨r2_6, br2_6⟩ := hB2.is 6
 have lr2_6 := hB2.lr 6 br2_6
 have k2_15 := kt hg2 15 (hB2.is 4)
 have k2_16 := kt hg2 16 (hB2.is 5)
 have k2_6 := kt hg2 6 r2_6
 obtain ⟨W3, hW3⟩ : ∃ W', W' = W2.setRow (s2 6) #[.int .i64 p.wide, .int .i64 p.tlo, .int .i64 p.thi, .int .i64 p.webs, .slice (some ⟨bo, oo, none⟩) 3 co] := ⟨_, rfl⟩
 refine tsk (o := _) rfl ⟨rfl, rfl⟩ (run_seg hW3 (fr_ev k2_6) (fr_ev k2_15) br2_6 rfl rfl rfl rfl) ?_
 obtain ⟨fB3, nb3, ot3, z3⟩ := sgf hW3 fB2 br2_6 (by omega)
 clear hW3
 refine tail_value (o := _) rfl rfl rfl (v := .int .i64 0) (by simp [go_sem, frv 30 k2_16]) ?_
 generalize hg4 : upd g2 7 (.int .i64 0) = g4
 have k4_7 := kt hg4 7 (upd_same _ _ _)
 refine wpe ?_
 refine hK2 _ _ ?_
 refine wp_seq_k fun K3 hK3 => ?_
 refine rw_ 2 [(17, 0), (18, 1)] [[], [0]] (rel [iI 0, iB false])
  ⟨fun f s W c d k l m a => opm (a.v 7 k4_7),
  fun f s W c d k l m a => opv rfl rfl (by simp [go_sem, a.e 17 (d 0 rfl)]) rfl, trivial⟩ ?_
 intro f5 s5 W5 hB5 g5 hg5 z5
 have fB5 := hB5.f fB3
 have b5_1 := hB5.b nb3
 have k5_6 := kt hg5 6 (ku hg4 6 k2_6)
 have k5_18 := kt hg5 18 (hB5.is 1)
 refine wp_cond_false ((fr_eval rfl).trans k5_18) ?_
 refine wp_skip ?_
 refine hK3 _ _ ?_
 refine rx 9 [(21, 0), (22, 1), (20, 2), (23, 3), (24, 4), (25, 5), (8, 6), (9, 7), (10, 8)] [[], [0], [0, 1], [0, 1, 2], [0, 1, 2], [0, 1, 2], [0, 1, 2, 3], [0, 1, 2, 3, 4, 6], [0, 1, 2, 3, 4, 5, 6, 7]] (rel [is (.agg #[.int .i64 p.wide, .int .i64 p.tlo, .int .i64 p.thi, .int .i64 p.webs, .slice (some ⟨bo, oo, none⟩) 3 co]),
   ab fun v W => ∃ x0, v = .tuple #[x0, .int .i64 q.waste, .bool true] ∧ IsPlan (q.best.length) (plX (patL p os 3 3 []) q.best) x0 W,
   ab fun v W => ∃ x0, v = .tuple #[x0, .int .i64 q.waste, .bool true] ∧ IsPlan (q.best.length) (plX (patL p os 3 3 []) q.best) x0 W,
   ab fun v W => IsPlan (q.best.length) (plX (patL p os 3 3 []) q.best) v W,
   is (.int .i64 q.waste),
   is (.bool true),
   ab fun v W => IsPlan (q.best.length) (plX (patL p os 3 3 []) q.best) v W,
   is (.int .i64 q.waste),
   is (.bool true)])
  ⟨is_k, ab_k fun v W W' hb ⟨x0, e, h0⟩ => ⟨x0, e, (h0.below hb)⟩, ab_k fun v W W' hb ⟨x0, e, h0⟩ => ⟨x0, e, (h0.below hb)⟩, ab_k fun v W W' hb h => (h.below hb), is_k, is_k, ab_k fun v W W' hb h => (h.below hb), is_k, is_k, trivial⟩
  ⟨fun f s W c d k l m a => opl rfl rfl rfl (a.v 6 k5_6) (bwb b5_1 c) Try.underlying110 rfl (by kernel_rfl) rfl,
  fun f s W c d k l m a => by have n := bwt fB5 c; exact opd rfl rfl (by simp [go_sem, a.e 21 (d 0 rfl)]) (plan_some p os bo oo co q W (hO.below n) hp ho hq) ((fun e W' h => by obtain ⟨v, e1, h1, h2, h3⟩ := h; exact ⟨_, e1, h3, ⟨v, rfl, h1⟩⟩)),
  fun f s W c d k l m a => opv (v := (f 1)) rfl rfl (by simp [go_sem, (a.at' 22 rfl : m.tmps[22]?.getD undef = f 1)] <;> rfl) (d 1 rfl),
  fun f s W c d k l m a => by obtain ⟨x2_0, d2, p2_0⟩ := (d 2 rfl); exact opv (v := x2_0) rfl rfl (by simp [go_sem, a.e 20 d2]) p2_0,
  fun f s W c d k l m a => by obtain ⟨x2_0, d2, p2_0⟩ := (d 2 rfl); exact opv rfl rfl (by simp [go_sem, a.e 20 d2]) rfl,
  fun f s W c d k l m a => by obtain ⟨x2_0, d2, p2_0⟩ := (d 2 rfl); exact opv rfl rfl (by simp [go_sem, a.e 20 d2]) rfl,
  fun f s W c d k l m a => opv (v := (f 3)) rfl rfl (by simp [go_sem, (a.at' 23 rfl : m.tmps[23]?.getD undef = f 3)] <;> rfl) (d 3 rfl),
  fun f s W c d k l m a => opv rfl rfl (by simp [go_sem, a.e 24 (d 4 rfl)]) rfl,
  fun f s W c d k l m a => opv rfl rfl (by simp [go_sem, a.e 25 (d 5 rfl)]) rfl, trivial⟩ ?_
 intro f6 s6 W6 hB6 g6 hg6 z6
 obtain ⟨a10', c11', b12', o13', ad14', cp15', r6_6, q18', q17', q16'⟩ := hB6.is 6
 have k6_10 := kt hg6 10 (hB6.is 8)
 refine wp_seq_k fun K7 hK7 => ?_
 refine rw_ 2 [(26, 0), (27, 1)] [[], [0]] (rel [iB true, iB false])
  ⟨fun f s W c d k l m a => opm (a.v 10 k6_10),
  fun f s W c d k l m a => opv rfl rfl (by simp [go_sem, a.e 26 (d 0 rfl)]) rfl, trivial⟩ ?_
 intro f7 s7 W7 hB7 g7 hg7 z7
 have q19' := (q16'.below hB7.below)
 have q20' := q17'
 have q21' := q18'
 have k7_8 := kt hg7 8 (kt hg6 8 r6_6)
 have k7_27 := kt hg7 27 (hB7.is 1)
 refine wp_cond_false ((fr_eval rfl).trans k7_27) ?_
 refine wp_skip ?_
 refine hK7 _ _ ?_
 refine rx 4 [(28, 0), (29, 1), (4, 2), (5, 3)] [[], [0], [1], []] (rel [is (.slice a10' (q.best.length) c11'), ab fun v W => IsPlan (q.best.length) (plX (patL p os 3 3 []) q.best) v W, ab fun v W => IsPlan (q.best.length) (plX (patL p os 3 3 []) q.best) v W, iI 0])
  ⟨is_k, ab_k fun v W W' hb h => (h.below hb), ab_k fun v W W' hb h => (h.below hb), is_k, trivial⟩
  ⟨fun f s W c d k l m a => opm (a.v 8 k7_8),
  fun f s W c d k l m a => opd rfl rfl (by simp [go_sem, a.e 28 (d 0 rfl)]) (trOwn_any q.best.length c11' b12' o13' a10' (plX (patL p os 3 3 []) q.best) ad14' cp15' W q20' ((q19'.below c)) (by omega) (fun j hj => by rw [plX_len (patL_ok hp ho) hok_.1 hj]; decide)) ((fun e W' h => by obtain ⟨v, e1, h1, h2⟩ := h; exact ⟨_, e1, h2, h1⟩)),
  fun f s W c d k l m a => opv (v := (f 1)) rfl rfl (by simp [go_sem, (a.at' 29 rfl : m.tmps[29]?.getD undef = f 1)] <;> rfl) (d 1 rfl),
  fun f s W c d k l m a => opz, trivial⟩ ?_
 intro f8 s8 W8 hB8 g8 hg8 z8
 have fB8 := hB8.f (hB7.f (hB6.f fB5))
 have q31' := (q19'.below hB8.below)
 have q32' := q20'
 have q33' := q21'
 obtain ⟨a34', c35', b36', o37', ad38', cp39', r8_2, q42', q41', q40'⟩ := hB8.is 2
 have k8_4 := kt hg8 4 r8_2
 have k8_5 := kt hg8 5 (hB8.is 3)
 refine wp_ret ?_
 refine leave_gen (v := .tuple #[.slice a34' (q.best.length) c35', .int .i64 0]) (.inr rfl) (by simp [results, Try.results12, go_sem, frv 30 k8_4, frv 30 k8_5]) ?_
 exact ⟨_, rfl, ⟨_, _, _, _, _, _, rfl, q42', q41', q40'⟩, fB8⟩
def exO : Nat → To
  | 0 => ⟨800, 10, 12⟩
  | 1 => ⟨700, 8, 9⟩
  | _ => ⟨1200, 4, 4⟩
theorem exO_in : ∀ i, i < 3 → ToIn (exO i) := fun i hi => by
  match i, hi with
  | 0, _ => exact ⟨by decide, by decide⟩
  | 1, _ => exact ⟨by decide, by decide⟩
  | 2, _ => exact ⟨by decide, by decide⟩
theorem ordR_ex {W : World} {b : Nat} (h : W.heap[b]? = some (.cells #[.int .i64 800, .int .i64 10, .int .i64 12, .int .i64 700, .int .i64 8, .int .i64 9, .int .i64 1200, .int .i64 4, .int .i64 4] 65 (0, 0))) : OrdR W b 0 3 exO := by
  refine ⟨ltb h, fun i hi => ?_⟩
  match i, hi with
  | 0, _ => exact ⟨Joins.cell_of_block h 0, Joins.cell_of_block h 1, Joins.cell_of_block h 2⟩
  | 1, _ => exact ⟨Joins.cell_of_block h 3, Joins.cell_of_block h 4, Joins.cell_of_block h 5⟩
  | 2, _ => exact ⟨Joins.cell_of_block h 6, Joins.cell_of_block h 7, Joins.cell_of_block h 8⟩
open Go.RowKit
def exP2 : Tp := ⟨2500, 20, 200, 4⟩
theorem exP2_in : TpIn exP2 := ⟨by decide, by decide, by decide⟩
theorem exM_is : patL exP2 exO 3 3 [] = [[0, 0, 2], [2, 1, 0], [3, 0, 0]] := by kernel_rfl
def IsPt (v : Value) (W : World) : Prop := ∃ b o c a1 c1, v = .slice (some ⟨b, o, none⟩) 3 c ∧ b < W.heap.size ∧ W.cell? ⟨b, o + 1, none⟩ = some (.slice a1 3 c1) ∧ Ii W a1 3 c1 [2, 1, 0]
theorem IsPt.below {v : Value} {W W' : World} (h : IsPt v W) (hb : Below W.heap.size W W') : IsPt v W' := by
  obtain ⟨b, o, c, a1, c1, e, h1, h2, h3⟩ := h; exact ⟨b, o, c, a1, c1, e, Nat.lt_of_lt_of_le h1 hb.size, (hb.cell (p := ⟨b, o + 1, none⟩) h1).trans h2, h3.below hb (Nat.le_refl _)⟩
theorem isPt_of {v : Value} {W : World} (h : IsLL (patL exP2 exO 3 3 []) v W) : IsPt v W := by
  rw [exM_is] at h
  obtain ⟨a, c, b, o, ad, cp, e, h1, h2, h3, h4⟩ := h
  have ha := h2 (by decide)
  subst ha
  exact ⟨b, o, c, ad 1, cp 1, e, h3 (by decide), (h4 1 (by decide)).1, (h4 1 (by decide)).2⟩
theorem arm_spanT (lo hi : Int) (w : World) :
  Calls Try.prog 9 #[.int .i64 lo, .int .i64 hi] w (fun e w' => e = .returned (.agg #[.int .i64 lo, .int .i64 hi]) ∧ Below w.heap.size w w') := by
 refine calls_fr Try.func9 Try.ntmps9 rfl rfl fun g hg => ?_
 have k0 : g 0 = .int .i64 lo := hg 0
 have k1 : g 1 = .int .i64 hi := hg 1
 clear hg
 have fB0 : Below w.heap.size w w := Below.refl _ _
 refine rw_ 1 [(4, 0)] [[]] (rel [bx 0 #[.int .i64 0, .int .i64 0] 43])
  ⟨fun f s W c d h i j a => opb rfl rfl (by simp [go_sem]), trivial⟩ ?_
 intro f1 s1 W1 hB1 g1 hg1 z1
 obtain ⟨r1_0, br1_0⟩ := hB1.is 0
 have lr1_0 := hB1.lr 0 br1_0
 have k1_0 := kt hg1 0 k0
 have k1_1 := kt hg1 1 k1
 refine wp_seq_k fun K2 hK2 => ?_
 refine ry 3 [(5, 0), (6, 1), (7, 2)] [[], [], [0, 1], [0, 1, 2]] (rel [iI lo, iI hi, is (.agg #[.int .i64 lo, .int .i64 hi])])
  ⟨fun f s W c d h i j a => opm (a.v 0 k1_0),
  fun f s W c d h i j a => opm (a.v 1 k1_1),
  fun f s W c d h i j a => opv rfl rfl (by simp [go_sem, a.e 5 (d 0 rfl), a.e 6 (d 1 rfl)]) rfl, trivial⟩ ?_
 intro f2 s2 W2 hB2 g2 hg2 z2
 have fB2 := hB2.f (hB1.f fB0)
 have b2_0 := hB2.b br1_0
 have k2_4 := kt hg2 4 (kt hg1 4 r1_0)
 have k2_7 := kt hg2 7 (hB2.is 2)
 obtain ⟨W3, hW3⟩ : ∃ W', W' = W2.setRow (s1 0) #[.int .i64 lo, .int .i64 hi] := ⟨_, rfl⟩
 refine tsk (o := _) rfl ⟨rfl, rfl⟩ (run_seg hW3 (fr_ev k2_4) (fr_ev k2_7) b2_0 rfl rfl rfl rfl) ?_
 obtain ⟨fB3, nb3, ot3, z3⟩ := sgf hW3 fB2 b2_0 (by omega)
 clear hW3
 refine wpe ?_
 refine hK2 _ _ ?_
 refine wp_ret ?_
 refine leave_gen (v := .agg #[.int .i64 lo, .int .i64 hi]) (.inr rfl) (by simp [results, Try.results9, go_sem, frv 8 k2_4, cl nb3 0, cl nb3 1]) ?_
 exact ⟨rfl, fB3⟩
theorem armSame_yes (aa ab_ : Option Addr) (ca cb_ : Nat) (xs : List Int) (w : World) (hA : Ii w aa xs.length ca xs) (hB_ : Ii w ab_ xs.length cb_ xs) (gn : xs.length ≤ 1000) :
  Calls Try.prog 34 #[.slice aa (xs.length) ca, .slice ab_ (xs.length) cb_] w (fun e w' => e = .returned (.bool true) ∧ Below w.heap.size w w') := by
 obtain ⟨ba_, oa_, ha_⟩ := hA.open
 obtain ⟨bb_, ob_, hb_⟩ := hB_.open
 refine calls_fr Try.func34 Try.ntmps34 rfl rfl fun g hg => ?_
 have k0 : g 0 = .slice aa (xs.length) ca := hg 0
 have k1 : g 1 = .slice ab_ (xs.length) cb_ := hg 1
 clear hg
 have fB0 : Below w.heap.size w w := Below.refl _ _
 refine rw_ 1 [(4, 0)] [[]] (rel [iB false])
  ⟨fun f s W b c d h i a => opz, trivial⟩ ?_
 intro f1 s1 W1 hB1 g1 hg1 z1
 have k1_0 := kt hg1 0 k0
 have k1_1 := kt hg1 1 k1
 refine wp_seq_k fun K2 hK2 => ?_
 refine rw_ 5 [(6, 0), (7, 1), (8, 2), (9, 3), (10, 4)] [[], [0], [], [2], [1, 3]] (rel [is (.slice aa (xs.length) ca), iI ((xs.length : Int)), is (.slice ab_ (xs.length) cb_), iI ((xs.length : Int)), iB false])
  ⟨fun f s W b c d h i a => opm (a.v 0 k1_0),
  fun f s W b c d h i a => opv rfl rfl (by simp [go_sem, a.e 6 (c 0 rfl)]) rfl,
  fun f s W b c d h i a => opm (a.v 1 k1_1),
  fun f s W b c d h i a => opv rfl rfl (by simp [go_sem, a.e 8 (c 2 rfl)]) rfl,
  fun f s W b c d h i a => opv rfl rfl (by simp [go_sem, a.e 7 (c 1 rfl), a.e 9 (c 3 rfl)]) rfl, trivial⟩ ?_
 intro f2 s2 W2 hB2 g2 hg2 z2
 have k2_10 := kt hg2 10 (hB2.is 4)
 refine wp_cond_false ((fr_eval rfl).trans k2_10) ?_
 refine wp_skip ?_
 refine hK2 _ _ ?_
 refine wp_seq_k fun K5 hK5 => ?_
 refine rw_ 1 [(5, 0)] [[]] (rel [iI 0])
  ⟨fun f s W b c d h i a => opz, trivial⟩ ?_
 intro f3 s3 W3 hB3 g3 hg3 z3
 have fB3 := hB3.f (hB2.f (hB1.f fB0))
 have k3_0 := kt hg3 0 (kt hg2 0 k1_0)
 have k3_1 := kt hg3 1 (kt hg2 1 k1_1)
 have k3_4 := kt hg3 4 (kt hg2 4 (kt hg1 4 (hB1.is 0)))
 have k3_5 := kt hg3 5 (hB3.is 0)
 refine wp_block ?_
 refine wp_loop_n (fun m_ a_ W_ => ∃ g_ : Nat → Value, a_ = fr 26 g_ ∧ (∃ k : Nat, m_ = xs.length - k ∧ g_ 0 = .slice aa (xs.length) ca ∧ g_ 1 = .slice ab_ (xs.length) cb_ ∧ g_ 4 = .bool false ∧ g_ 5 = .int .i64 ((k : Int)) ∧ Below w.heap.size w W_ ∧ W3.heap.size ≤ W_.heap.size ∧ (k ≤ xs.length))) ⟨_, g3, rfl, 0, rfl, k3_0, k3_1, k3_4, k3_5.trans (by rfl), fB3, Nat.le_refl _, (by omega)⟩ ?_
 rintro _ _ W_1 ⟨g_1, rfl, k, rfl, k_1_0, k_1_1, k_1_4, k_1_5, fB_1, z_1, lk0⟩
 refine wp_seq_k fun K7 hK7 => ?_
 refine rw_ 4 [(11, 0), (12, 1), (13, 2), (14, 3)] [[], [], [1], [0, 2]] (rel [iI ((k : Int)), is (.slice aa (xs.length) ca), iI ((xs.length : Int)), iB (decide ((k : Int) < (xs.length : Int)))])
  ⟨fun f s W b c d h i a => opm (a.v 5 k_1_5),
  fun f s W b c d h i a => opm (a.v 0 k_1_0),
  fun f s W b c d h i a => opv rfl rfl (by simp [go_sem, a.e 12 (c 1 rfl)]) rfl,
  fun f s W b c d h i a => opv rfl rfl (by simp [go_sem, a.e 11 (c 0 rfl), a.e 13 (c 2 rfl)]) rfl, trivial⟩ ?_
 intro f4 s4 W4 hB4 g4 hg4 z4
 have fB4 := hB4.f fB_1
 have k4_0 := kt hg4 0 k_1_0
 have k4_1 := kt hg4 1 k_1_1
 have k4_5 := kt hg4 5 k_1_5
 have k4_14 := kt hg4 14 (hB4.is 3)
 refine wp_cond_split (t := decide ((k : Int) < (xs.length : Int))) ((fr_eval rfl).trans k4_14) (fun hc9 => ?_) (fun hc9 => ?_)
 ·
  have hc9' := hc9; try simp only [ba] at hc9'
  have hkn : k < xs.length := by omega
  refine wp_skip ?_
  refine hK7 _ _ ?_
  refine wp_seq_k fun K10 hK10 => ?_
  refine wp_block ?_
  refine rw_ 9 [(17, 0), (18, 1), (19, 2), (20, 3), (21, 4), (22, 5), (23, 6), (24, 7), (25, 8)] [[], [], [0, 1], [2], [], [], [4, 5], [6], [3, 7]] (rel [is (.slice aa (xs.length) ca), iI ((k : Int)), is (.pointer (some ⟨ba_, oa_ + k, none⟩)), iI ((elT xs k)), is (.slice ab_ (xs.length) cb_), iI ((k : Int)), is (.pointer (some ⟨bb_, ob_ + k, none⟩)), iI ((elT xs k)), iB false])
   ⟨fun f s W b c d h i a => opm (a.v 0 k4_0),
  fun f s W b c d h i a => opm (a.v 5 k4_5),
  fun f s W b c d h i a => by have hab := (ha_ (by omega)).1; have li_ := Nat.not_le.2 (show k < xs.length by omega); have li2_ : (k : Int) < (xs.length : Int) := (by omega); exact opv rfl rfl (by simp [go_sem, a.e 17 (c 0 rfl), a.e 18 (c 1 rfl), hab, li_, li2_]) rfl,
  fun f s W b c d h i a => by have j := bwt fB4 b; have cu_ := (ha_ (by omega)).2 W j k (by omega); exact opv rfl rfl (by simp [go_sem, a.e 19 (c 2 rfl), cu_]) rfl,
  fun f s W b c d h i a => opm (a.v 1 k4_1),
  fun f s W b c d h i a => opm (a.v 5 k4_5),
  fun f s W b c d h i a => by have hab := (hb_ (by omega)).1; have li_ := Nat.not_le.2 (show k < xs.length by omega); have li2_ : (k : Int) < (xs.length : Int) := (by omega); exact opv rfl rfl (by simp [go_sem, a.e 21 (c 4 rfl), a.e 22 (c 5 rfl), hab, li_, li2_]) rfl,
  fun f s W b c d h i a => by have j := bwt fB4 b; have cu_ := (hb_ (by omega)).2 W j k (by omega); exact opv rfl rfl (by simp [go_sem, a.e 23 (c 6 rfl), cu_]) rfl,
  fun f s W b c d h i a => opv rfl rfl (by simp [go_sem, a.e 20 (c 3 rfl), a.e 24 (c 7 rfl)]) rfl, trivial⟩ ?_
  intro f5 s5 W5 hB5 g5 hg5 z5
  have k5_5 := kt hg5 5 k4_5
  have k5_25 := kt hg5 25 (hB5.is 8)
  refine wp_cond_false ((fr_eval rfl).trans k5_25) ?_
  refine wp_skip ?_
  refine ibn ?_
  refine hK10 _ _ ?_
  refine ry 3 [(15, 0), (16, 1), (5, 2)] [[], [0], [0, 1]] (rel [iI ((k : Int)), iI ((k : Int) + 1), iI ((k : Int) + 1)])
   ⟨fun f s W b c d h i a => opm (a.v 5 ((h 2 5 rfl rfl).trans k5_5)),
  fun f s W b c d h i a => opv rfl rfl (by simp [go_sem, a.e 15 (c 0 rfl), IntWalk.i64_in ((k : Int) + 1) (by omega)]) rfl,
  fun f s W b c d h i a => opm (a.v 16 (c 1 rfl)), trivial⟩ ?_
  intro f6 s6 W6 hB6 g6 hg6 z6
  have fB6 := hB6.f (hB5.f fB4)
  refine wpe ?_
  have k6_0 := kt hg6 0 (kt hg5 0 k4_0)
  have k6_1 := kt hg6 1 (kt hg5 1 k4_1)
  have k6_4 := kt hg6 4 (kt hg5 4 (kt hg4 4 k_1_4))
  have k6_5 := kt hg6 5 (hB6.is 2)
  refine then_normal ?_
  exact ⟨_, by omega, g6, rfl, k + 1, rfl, k6_0, k6_1, k6_4, k6_5.trans (by go_num), fB6, (by omega), (by omega)⟩
 ·
  have hc9' := hc9; try simp only [ba] at hc9'
  refine wp_exit ?_
  refine then_exit ?_
  refine then_exit ?_
  refine inBlock_at ?_
  refine hK5 _ _ ?_
  refine rw_ 1 [(4, 0)] [[]] (rel [iB true])
   ⟨fun f s W b c d h i a => opz, trivial⟩ ?_
  intro f7 s7 W7 hB7 g7 hg7 z7
  have fB7 := hB7.f fB4
  have k7_4 := kt hg7 4 (hB7.is 0)
  refine wp_ret ?_
  refine leave_one (N := 26) (.inr rfl) Try.results34 rfl k7_4 ?_
  exact ⟨rfl, fB7⟩
def PtC (b o : Nat) (a1 : Option Addr) (c1 : Nat) (W : World) : Prop := b < W.heap.size ∧ W.cell? ⟨b, o + 1, none⟩ = some (.slice a1 3 c1)
theorem PtC.below {b o : Nat} {a1 : Option Addr} {c1 : Nat} {W W' : World} (h : PtC b o a1 c1 W) (hb : Below W.heap.size W W') : PtC b o a1 c1 W' := ⟨Nat.lt_of_lt_of_le h.1 hb.size, (hb.cell (p := ⟨b, o + 1, none⟩) h.1).trans h.2⟩
theorem armTrim_yes (w : World) :
  Calls Try.prog 13 #[] w (fun e w' => e = .returned (.bool true) ∧ Below w.heap.size w w') := by
 refine calls_fr Try.func13 Try.ntmps13 rfl rfl fun g hg => ?_
 clear hg
 have fB0 : Below w.heap.size w w := Below.refl _ _
 refine rw_ 1 [(0, 0)] [[]] (rel [iB false])
  ⟨fun f s W i j k l m a => opz, trivial⟩ ?_
 intro f1 s1 W1 hB1 g1 hg1 z1
 refine rx 15 [(4, 0), (5, 1), (6, 2), (7, 3), (8, 4), (9, 5), (10, 6), (11, 7), (12, 8), (13, 9), (3, 10), (14, 11), (15, 12), (1, 13), (2, 14)] [[], [0], [0], [0, 2], [0, 2], [0, 2, 4], [0, 2, 4], [0, 2, 4, 6], [0, 2, 3, 4, 5, 6, 7], [0, 1, 2, 3, 4, 5, 6, 7, 8], [0, 1, 2, 3, 4, 5, 6, 7, 8, 9], [0, 1, 2, 3, 4, 5, 6, 7, 8, 9, 10], [0, 1, 2, 3, 4, 5, 6, 7, 8, 9, 10], [0, 1, 2, 3, 4, 5, 6, 7, 8, 9, 10, 11], [0, 1, 2, 3, 4, 5, 6, 7, 8, 9, 10, 11, 12, 13]] (rel [is (.agg #[.int .i64 20, .int .i64 200]),
   is (.agg #[.int .i64 2500, .int .i64 20, .int .i64 200, .int .i64 4]),
   is (.agg #[.int .i64 10, .int .i64 12]),
   is (.agg #[.int .i64 800, .int .i64 10, .int .i64 12]),
   is (.agg #[.int .i64 8, .int .i64 9]),
   is (.agg #[.int .i64 700, .int .i64 8, .int .i64 9]),
   is (.agg #[.int .i64 4, .int .i64 4]),
   is (.agg #[.int .i64 1200, .int .i64 4, .int .i64 4]),
   row 8 3 #[.int .i64 800, .int .i64 10, .int .i64 12, .int .i64 700, .int .i64 8, .int .i64 9, .int .i64 1200, .int .i64 4, .int .i64 4] 65,
   ab fun v W => ∃ x0, v = .tuple #[x0, .int .i64 0] ∧ (∃ b o c, x0 = .slice (some ⟨b, o, none⟩) 3 c ∧ IsPt (.slice (some ⟨b, o, none⟩) 3 c) W),
   ab fun v W => ∃ x0, v = .tuple #[x0, .int .i64 0] ∧ (∃ b o c, x0 = .slice (some ⟨b, o, none⟩) 3 c ∧ IsPt (.slice (some ⟨b, o, none⟩) 3 c) W),
   ab fun v W => (∃ b o c, v = .slice (some ⟨b, o, none⟩) 3 c ∧ IsPt (.slice (some ⟨b, o, none⟩) 3 c) W),
   is (.int .i64 0),
   ab fun v W => (∃ b o c, v = .slice (some ⟨b, o, none⟩) 3 c ∧ IsPt (.slice (some ⟨b, o, none⟩) 3 c) W),
   is (.int .i64 0)])
  ⟨is_k, is_k, is_k, is_k, is_k, is_k, is_k, is_k, row_k, ab_k fun v W W' hb ⟨x0, e, h0⟩ => ⟨x0, e, (by obtain ⟨b_, o_, c_, e_, h_⟩ := h0; exact ⟨b_, o_, c_, e_, h_.below hb⟩)⟩, ab_k fun v W W' hb ⟨x0, e, h0⟩ => ⟨x0, e, (by obtain ⟨b_, o_, c_, e_, h_⟩ := h0; exact ⟨b_, o_, c_, e_, h_.below hb⟩)⟩, ab_k fun v W W' hb h => (by obtain ⟨b_, o_, c_, e_, h_⟩ := h; exact ⟨b_, o_, c_, e_, h_.below hb⟩), is_k, ab_k fun v W W' hb h => (by obtain ⟨b_, o_, c_, e_, h_⟩ := h; exact ⟨b_, o_, c_, e_, h_.below hb⟩), is_k, trivial⟩
  ⟨fun f s W i j k l m a => opc rfl rfl (by simp [go_sem]) (arm_spanT (20) (200) W),
  fun f s W i j k l m a => opv rfl rfl (by simp [go_sem, a.e 4 (j 0 rfl)]) rfl,
  fun f s W i j k l m a => opc rfl rfl (by simp [go_sem]) (arm_spanT (10) (12) W),
  fun f s W i j k l m a => opv rfl rfl (by simp [go_sem, a.e 6 (j 2 rfl)]) rfl,
  fun f s W i j k l m a => opc rfl rfl (by simp [go_sem]) (arm_spanT (8) (9) W),
  fun f s W i j k l m a => opv rfl rfl (by simp [go_sem, a.e 8 (j 4 rfl)]) rfl,
  fun f s W i j k l m a => opc rfl rfl (by simp [go_sem]) (arm_spanT (4) (4) W),
  fun f s W i j k l m a => opv rfl rfl (by simp [go_sem, a.e 10 (j 6 rfl)]) rfl,
  fun f s W i j k l m a => opr rfl rfl (by simp [go_sem, a.e 7 (j 3 rfl), a.e 9 (j 5 rfl), a.e 11 (j 7 rfl)]),
  fun f s W i j k l m a => opd rfl rfl (by simp [go_sem, a.e 5 (j 1 rfl), a.e 12 (j 8 rfl).1]) (tr_Patterns ⟨2500, 20, 200, 4⟩ exO (s 8) 0 3 3 W (ordR_ex (j 8 rfl).2) exP2_in exO_in (by decide)) ((fun e W' h => by obtain ⟨v, e1, h1, h2⟩ := h; have hp_ := isPt_of h1; obtain ⟨b, o, c, a1, c1, rfl, h3⟩ := hp_; exact ⟨_, e1, h2, ⟨_, rfl, ⟨b, o, c, rfl, ⟨b, o, c, a1, c1, rfl, h3⟩⟩⟩⟩)),
  fun f s W i j k l m a => opv (v := (f 9)) rfl rfl (by simp [go_sem, (a.at' 13 rfl : m.tmps[13]?.getD undef = f 9)] <;> rfl) (j 9 rfl),
  fun f s W i j k l m a => by obtain ⟨x10_0, d10, p10_0⟩ := (j 10 rfl); exact opv (v := x10_0) rfl rfl (by simp [go_sem, a.e 3 d10]) p10_0,
  fun f s W i j k l m a => by obtain ⟨x10_0, d10, p10_0⟩ := (j 10 rfl); exact opv rfl rfl (by simp [go_sem, a.e 3 d10]) rfl,
  fun f s W i j k l m a => opv (v := (f 11)) rfl rfl (by simp [go_sem, (a.at' 14 rfl : m.tmps[14]?.getD undef = f 11)] <;> rfl) (j 11 rfl),
  fun f s W i j k l m a => opv rfl rfl (by simp [go_sem, a.e 15 (j 12 rfl)]) rfl, trivial⟩ ?_
 intro f2 s2 W2 hB2 g2 hg2 z2
 obtain ⟨r2_8, br2_8⟩ := hB2.is 8
 have lr2_8 := hB2.lr 8 br2_8
 obtain ⟨b8', o9', c10', r2_13, q13'⟩ := hB2.is 13
 have k2_1 := kt hg2 1 r2_13
 have k2_2 := kt hg2 2 (hB2.is 14)
 obtain ⟨b_, o_, c_, a1, c1, e_, hpl_, hpc_, hpi_⟩ := q13'
 cases e_
 have hpt_ : PtC b8' o9' a1 c1 W2 := ⟨hpl_, hpc_⟩
 refine rw_ 15 [(16, 0), (17, 1), (18, 2), (19, 3), (20, 4), (21, 5), (22, 6), (23, 7), (24, 8), (25, 9), (26, 10), (27, 11), (28, 12), (29, 13), (0, 14)] [[], [0], [1], [2], [2, 3], [2, 4], [2, 5], [6], [7], [7, 8], [7, 9], [7], [7, 10, 11], [7, 12], [13]] (rel [iI 0, iB true, iB true, is (.slice (some ⟨b8', o9', none⟩) 3 c10'), iI 3, iB true, iB true, iB true, is (.slice (some ⟨b8', o9', none⟩) 3 c10'), is (.pointer (some ⟨b8', o9' + 1, none⟩)), is (.slice a1 3 c1), row 11 3 #[.int .i64 2, .int .i64 1, .int .i64 0] 3, iB true, iB true, iB true])
  ⟨fun f s W i j k l m a => opm (a.v 2 k2_2),
  fun f s W i j k l m a => opv rfl rfl (by simp [go_sem, a.e 16 (j 0 rfl)]) rfl,
  fun f s W i j k l m a => opm (a.v 17 (j 1 rfl)),
  fun f s W i j k l m a => osure rfl rfl (a.says (d := 18) rfl rfl (j 2 rfl)) (gv (by simp [go_sem, a.e 1 k2_1]) rfl),
  fun f s W i j k l m a => osure rfl rfl (a.says (d := 18) rfl rfl (j 2 rfl)) (gv (by simp [go_sem, a.e 19 (j 3 rfl)]) rfl),
  fun f s W i j k l m a => osure rfl rfl (a.says (d := 18) rfl rfl (j 2 rfl)) (gv (by simp [go_sem, a.e 20 (j 4 rfl)]) rfl),
  fun f s W i j k l m a => opk (c := true) rfl rfl (fun h => absurd h (by decide)) (fun _ => by simp [go_sem, a.e 18 (j 2 rfl), a.e 21 (j 5 rfl)]),
  fun f s W i j k l m a => opm (a.v 22 (j 6 rfl)),
  fun f s W i j k l m a => osure rfl rfl (a.says (d := 23) rfl rfl (j 7 rfl)) (gv (by simp [go_sem, a.e 1 k2_1]) rfl),
  fun f s W i j k l m a => osure rfl rfl (a.says (d := 23) rfl rfl (j 7 rfl)) (gv (by simp [go_sem, a.e 24 (j 8 rfl)]) rfl),
  fun f s W i j k l m a => osure rfl rfl (a.says (d := 23) rfl rfl (j 7 rfl)) (by have cu_ := ((PtC.below hpt_ i)).2; exact gv (by simp [go_sem, a.e 25 (j 9 rfl), cu_]) rfl),
  fun f s W i j k l m a => osure rfl rfl (a.says (d := 23) rfl rfl (j 7 rfl)) (gr (by simp [go_sem])),
  fun f s W i j k l m a => osure rfl rfl (a.says (d := 23) rfl rfl (j 7 rfl)) (gc (args := #[.slice a1 3 c1, .slice (some ⟨(s 11), 0, none⟩) (3) (3)]) (by simp [go_sem, a.e 26 (j 10 rfl), a.e 27 (j 11 rfl).1]) (armSame_yes a1 (some ⟨(s 11), 0, none⟩) c1 3 [2, 1, 0] W ((Ii.below hpi_ i (Nat.le_refl _))) (ii_block (xs := [2, 1, 0]) (j 11 rfl).2 rfl rfl) (by decide))),
  fun f s W i j k l m a => opk (c := true) rfl rfl (fun h => absurd h (by decide)) (fun _ => by simp [go_sem, a.e 23 (j 7 rfl), a.e 28 (j 12 rfl)]),
  fun f s W i j k l m a => opm (a.v 29 (j 13 rfl)), trivial⟩ ?_
 intro f3 s3 W3 hB3 g3 hg3 z3
 have fB3 := hB3.f (hB2.f (hB1.f fB0))
 have q14' := (PtC.below hpt_ hB3.below)
 have q15' := (Ii.below hpi_ hB3.below (Nat.le_refl _))
 obtain ⟨r3_11, br3_11⟩ := hB3.is 11
 have lr3_11 := hB3.lr 11 br3_11
 have k3_0 := kt hg3 0 (hB3.is 14)
 refine wp_ret ?_
 refine leave_one (N := 30) (.inr rfl) Try.results13 rfl k3_0 ?_
 exact ⟨rfl, fB3⟩
end Go.Proofs.Ytcgccflcjejlhaa
